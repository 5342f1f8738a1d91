/-
  Of this seat's texts what the claim wants (printed by a program): JE.
-/
import Derived.Test.YtlomjbfhalmalaaGreatDoortJ9
import Derived.LoopN
set_option linter.unusedVariables false
set_option linter.unusedSimpArgs false
namespace Go.Proofs.YtlomjbfhalmalaaGreatDoor.C
open Go Go.RowKit Go.Shelf Go.Proofs.YtlomjbfhalmalaaGreatDoor.M Go.Proofs.YtlomjbfhalmalaaGreatDoor.Z
abbrev zeroQ : Array Value := #[.int .i64 0, .string ⟨#[]⟩, .string ⟨#[]⟩, .int .i64 0, .slice none 0 0]
theorem Box.keeps {w w' : World} {x b : Nat} {Z : Nat → Prop} (h : Box w x b) (hk : Keeps Z w w') (hz : ¬ Z x) : Box w' x b := hk.obj h hz
theorem Box.lt {w : World} {x b : Nat} (h : Box w x b) : x < w.heap.size := lt_of_obj h
set_option maxHeartbeats 4000000 in
set_option maxRecDepth 100000 in
theorem row_single {w : World} {b x : Nat} {s : ByteArray} {p1 p2 d F G : Nat} {k : Int} (hb : b < w.heap.size) (hx : Box w x b) (hxb : x ≠ b) (hs : s.size ≤ 140737488351232) (eF : ∀ args w, (callFunc F args).run Tryz.prog w = .ok (.enter F args) w) (eG : ∀ args w, (callFunc G args).run Tryz.prog w = .ok (.enter G args) w) (Q : Value → World → Prop)
    (cT : Calls Tryz.prog F #[.pointer (some ⟨b, 0, none⟩)] (w.alloc (.cells zeroQ 24)) fun e w' => ∃ v, e = .returned v ∧ Q v w' ∧ Ps w' b s p1 d ∧ p1 ≤ s.size ∧ Keeps (fun k => k = b) (w.alloc (.cells zeroQ 24)) w')
    (hQ : ∀ v W W', Q v W → Keeps (fun k => k = b ∨ k = w.heap.size) W W' → Q v W')
    (hV : ∀ v W, Q v W → ∃ a y z n A l c, v = .agg #[.int .i64 a, .string y, .string z, .int .i64 n, .slice A l c])
    (hp2 : s.size - (((bl s).drop p1).dropWhile blk).length = p2)
    (cM : ∀ W, Box W x b → Ps W b s p2 d → Calls Tryz.prog G #[.pointer (some ⟨x, 0, none⟩)] W fun e w' => e = .returned (.bool false) ∧ Keeps none' W w') :
    Calls Tryz.prog 72 #[.pointer (some ⟨b, 0, none⟩), .int .i64 k, .func (.func F) #[.pointer (some ⟨b, 0, none⟩)] #[], .func (.func G) #[] #[.pointer (some ⟨x, 0, none⟩)]] w fun e w' => ∃ v, e = .returned v ∧ Q v w' ∧ Ps w' b s p2 d ∧ Keeps (fun k => k = b) w w' := by
  have kA : Keeps none' w (w.alloc (.cells zeroQ 24)) := Keeps.alloc _ _ _
  go_enter Tryz.func72, Tryz.ntmps72
  go_wp2_with fail
  refine cT.mono ?_
  rintro e w1 ⟨v, rfl, hq1, hP1, hp1, hk1⟩
  obtain ⟨a, y, z, n, A, l, c, rfl⟩ := hV _ _ hq1
  go_wp2_with fail
  have kw1 := (kA.mono (Z' := fun k => k = b) (fun _ _ h => h.elim)).trans hk1 (fun _ _ h => h)
  have br : w1.heap[w.heap.size]? = some (.cells zeroQ 24 (0, 0)) := hk1.obj (heap_alloc_new w _) (by omega)
  have kB : Keeps none' w1 (w1.alloc (.cells #[.int .i64 a, .string y, .string z, .int .i64 n, .slice A l c] 24)) := Keeps.alloc _ _ _
  have bg := heap_alloc_new w1 (.cells #[.int .i64 a, .string y, .string z, .int .i64 n, .slice A l c] 24)
  have hP2 := hP1.keeps kB (fun h => h)
  refine (blanks_any hP2 hp1 hs hp2).mono ?_
  rintro e w2 ⟨rfl, hP3, hk2⟩
  have hq2 := hQ _ _ _ (hQ _ _ _ hq1 (kB.mono (fun _ _ h => h.elim))) (hk2.mono (fun _ _ h => .inl h))
  have kw2 := (kw1.trans kB (fun _ _ h => h.elim)).trans hk2 (fun _ _ h => h)
  have hg : w.heap.size < w1.heap.size := lt_of_obj br
  have br2 := hk2.obj (kB.obj br (fun h => h)) (by omega)
  have bg2 := hk2.obj bg (by omega)
  go_wp2_with fail
  refine wp_loop_rounds 1 ?_
  rw [rounds_succ]
  go_wp2_with fail
  refine (cM _ (hx.keeps kw2 hxb) hP3).mono ?_
  rintro e w3 ⟨rfl, hk3⟩
  have hP4 := hP3.keeps hk3 (fun h => h)
  have hq3 := hQ _ _ _ hq2 (hk3.mono (fun _ _ h => h.elim))
  have kw3 := kw2.trans hk3 (fun _ _ h => h.elim)
  have br3 := hk3.obj br2 (fun h => h)
  have bg3 := hk3.obj bg2 (fun h => h)
  obtain ⟨g, hgg⟩ : ∃ g, w1.heap.size = g := ⟨_, rfl⟩
  rw [hgg] at bg3 hg
  have t0 : w3.cell? ⟨g, 0, none⟩ = some (.int .i64 a) := cell_of_row _ _ _ _ _ _ bg3
  have t1 : w3.cell? ⟨g, 1, none⟩ = some (.string y) := cell_of_row _ _ _ _ _ _ bg3
  have t2 : w3.cell? ⟨g, 2, none⟩ = some (.string z) := cell_of_row _ _ _ _ _ _ bg3
  have t3 : w3.cell? ⟨g, 3, none⟩ = some (.int .i64 n) := cell_of_row _ _ _ _ _ _ bg3
  have t4 : w3.cell? ⟨g, 4, none⟩ = some (.slice A l c) := cell_of_row _ _ _ _ _ _ bg3
  have r0 : w3.cell? ⟨w.heap.size, 0, none⟩ = some (.int .i64 0) := cell_of_row _ _ _ _ _ _ br3
  have r1 : w3.cell? ⟨w.heap.size, 1, none⟩ = some (.string ⟨#[]⟩) := cell_of_row _ _ _ _ _ _ br3
  have r2 : w3.cell? ⟨w.heap.size, 2, none⟩ = some (.string ⟨#[]⟩) := cell_of_row _ _ _ _ _ _ br3
  have r3 : w3.cell? ⟨w.heap.size, 3, none⟩ = some (.int .i64 0) := cell_of_row _ _ _ _ _ _ br3
  have r4 : w3.cell? ⟨w.heap.size, 4, none⟩ = some (.slice none 0 0) := cell_of_row _ _ _ _ _ _ br3
  have g0 := frozen_cells br3 0
  have g1 := frozen_cells br3 1
  have g2 := frozen_cells br3 2
  have g3 := frozen_cells br3 3
  have g4 := frozen_cells br3 4
  have fin : ∀ W, Keeps (fun k => k = w.heap.size) w3 W → Q (.agg #[.int .i64 a, .string y, .string z, .int .i64 n, .slice A l c]) W ∧ Ps W b s p2 d ∧ Keeps (fun k => k = b) w W := fun W hk => ⟨hQ _ _ _ hq3 (hk.mono (fun _ _ h => .inr h)), hP4.keeps hk (by omega), kw3.trans hk (fun i hi e => by omega)⟩
  clear kw3 hP4 hq3 kw2 hq2 hk2 hk3 br3 bg3 bg2 br2 kw1 hk1 kA kB hP1 hP2 hP3 cT cM hQ hV hq1 bg br
  go_wp2
  simp [bodyPost, results, Tryz.results72, go_sem, r0, r1, r2, r3, r4, t0, t1, t2, t3, t4]
  exact fin _ (Keeps.set5 _ _ _ _ _ _ _)
end Go.Proofs.YtlomjbfhalmalaaGreatDoor.C
set_option linter.unusedVariables false
set_option linter.unusedSimpArgs false
namespace Go.Proofs.YtlomjbfhalmalaaGreatDoor.C
open Go Go.RowKit Go.Shelf Go.Proofs.YtlomjbfhalmalaaGreatDoor.M Go.Proofs.YtlomjbfhalmalaaGreatDoor.Z
theorem infoQ : (Tryz.prog.info? 24).map (fun i => (i.zero, i.size, i.bytes)) = some (some (.agg zeroQ), 5, 72) := by kernel_rfl
abbrev notC (g : Nat) : List Value := [.int .i64 9, .string ⟨#[]⟩, .string ⟨#[]⟩, .int .i64 0, .slice (some ⟨g, 0, none⟩) 1 1]
abbrev leafL (K : Int) (wd : List UInt8) : List Value := [.int .i64 K, .string (ba wd), .string ⟨#[]⟩, .int .i64 0, .slice none 0 0]
def QA (lo : Nat) (K1 K2 : Int) (wd1 wd2 : List UInt8) (v : Value) (W : World) : Prop :=
  ∃ g1 g cap, v = .agg #[.int .i64 7, .string ⟨#[]⟩, .string ⟨#[]⟩, .int .i64 0, .slice (some ⟨g, 0, none⟩) 2 cap] ∧ lo ≤ g1 ∧ W.heap[g1]? = some (.cells (leafC K1 wd1) 24 (0, 0)) ∧
    W.ownsRow lo 24 5 (.slice (some ⟨g, 0, none⟩) 2 cap) 2 (notC g1 ++ leafL K2 wd2)
theorem QA.keeps {lo : Nat} {K1 K2 : Int} {wd1 wd2 : List UInt8} {v : Value} {W W' : World} {Z : Nat → Prop} (h : QA lo K1 K2 wd1 wd2 v W) (hk : Keeps Z W W') (hz : ∀ k, lo ≤ k → ¬ Z k) : QA lo K1 K2 wd1 wd2 v W' := by
  obtain ⟨g1, g, cap, rfl, h1, h2, h3⟩ := h
  obtain ⟨_, _, hf, hl, _⟩ := h3.form (by decide)
  injection hf with hf1
  injection hf1 with hf2
  injection hf2 with hf3
  subst hf3
  exact ⟨g1, _, cap, rfl, h1, hk.obj h2 (hz _ h1), owns_obj h3 hk (fun k hk' => by
    injection hk' with e
    rw [← e]; exact hz _ hl)⟩
set_option maxHeartbeats 8000000 in
set_option maxRecDepth 100000 in
theorem row_two {w : World} {b x : Nat} {s : ByteArray} {p d : Nat} (h : Ps w b s p d) (hT' : hT w) (hF : Far b) (hx : Box w x b) (hxb : x ≠ b) (hp : p ≤ s.size) (hd : d < 64) (hs : s.size ≤ 140737488351232) (ha : ∀ c ∈ bl s, c.toNat < 128 ∧ c ≠ 92)
    {q q' p1 : Nat} {K1 : Int} {wd1 pt1 : List UInt8} {n1 f1 : Nat} {st1 : Bool} (hq : s.size - (((bl s).drop p).dropWhile blk).length = q) (hqs : q < s.size) (h0 : dots ((bl s).drop q) = false) (hkey : Instr.findNow .string (.string (s.extract q (q + 1))) (sg 7) 0 = some (some (0, .func (.func 118) #[] #[])))
    (hq' : s.size - (((bl s).drop (q + 1)).dropWhile blk).length = q') (hL1 : LeafAt s q' p1 K1 wd1 pt1 n1 f1 st1)
    {p2 : Nat} (hp2 : s.size - (((bl s).drop p1).dropWhile blk).length = p2) (hp2s : p2 < s.size) (hc2 : s[p2]'hp2s ≠ 124 ∧ s[p2]'hp2s ≠ 41)
    {p3 : Nat} {K2 : Int} {wd2 pt2 : List UInt8} {n2 f2 : Nat} {st2 : Bool} (hp22 : s.size - (((bl s).drop p2).dropWhile blk).length = p2) (hL2 : LeafAt s p2 p3 K2 wd2 pt2 n2 f2 st2) (hp3 : p3 = s.size) :
    Calls Tryz.prog 72 #[.pointer (some ⟨b, 0, none⟩), .int .i64 7, .func (.func 95) #[.pointer (some ⟨b, 0, none⟩)] #[], .func (.func 96) #[] #[.pointer (some ⟨x, 0, none⟩)]] w fun e w' => ∃ v, e = .returned v ∧ QA (w.heap.size + 1) K1 K2 wd1 wd2 v w' ∧ Ps w' b s s.size d ∧ Keeps (fun k => k = b) w w' := by
  have hb := h.lt
  have kA : Keeps none' w (w.alloc (.cells zeroQ 24)) := Keeps.alloc _ _ _
  obtain ⟨i0, hi, hz0, hz1, hz2⟩ := info_parts infoQ
  go_enter Tryz.func72, Tryz.ntmps72
  go_wp2_with fail
  refine (one_not (h.keeps kA (fun h => h)) (hT_keeps hT' kA (fun h => h) (fun h => h)) hF hp hs ha hq hqs h0 hkey hd hq' hL1).mono ?_
  rintro e w1 ⟨g1, rfl, hg1, hgb, hP1, hp1, hk1⟩
  have hg1' : w.heap.size + 1 ≤ g1 := by simpa using hg1
  go_wp2_with fail
  have kw1 := (kA.mono (Z' := fun k => k = b) (fun _ _ h => h.elim)).trans hk1 (fun _ _ h => h)
  have br : w1.heap[w.heap.size]? = some (.cells zeroQ 24 (0, 0)) := hk1.obj (heap_alloc_new w _) (by omega)
  have hg : w.heap.size < w1.heap.size := lt_of_obj br
  have kB : Keeps none' w1 (w1.alloc (.cells (notC g1).toArray 24)) := Keeps.alloc _ _ _
  have bg : (w1.alloc (.cells (notC g1).toArray 24)).ownsRow (w.heap.size + 1) 24 5 (.slice (some ⟨w1.heap.size, 0, none⟩) 1 1) 1 (notC g1) :=
    ⟨rfl, .inr ⟨w1.heap.size, 1, (notC g1).toArray, rfl, by omega, heap_alloc_new w1 _, Nat.le_refl _, by decide, rfl, rfl⟩⟩
  have hP2 := hP1.keeps kB (fun h => h)
  refine (blanks_any hP2 hp1 hs hp2).mono ?_
  rintro e w2 ⟨rfl, hP3, hk2⟩
  have kw2 := (kw1.trans kB (fun _ _ h => h.elim)).trans hk2 (fun _ _ h => h)
  have br2 := hk2.obj (kB.obj br (fun h => h)) (by omega)
  have hb1 : b < w1.heap.size := hP1.lt
  have bg2 := owns_obj bg hk2 (fun k hk e => by simp [Value.ownBlock] at hk; omega)
  have bn2 := hk2.obj (kB.obj hgb (fun h => h)) (by omega)
  go_wp2_with fail
  refine wp_loop_rounds 2 ?_
  rw [rounds_succ]
  go_wp2_with fail
  refine (more1_at (hx.keeps kw2 hxb) hP3 hp2s rfl (.inl ⟨hc2, rfl⟩)).mono ?_
  rintro e w3 ⟨rfl, hk3⟩
  have hP4 := hP3.keeps hk3 (fun h => h)
  have kw3 := kw2.trans hk3 (fun _ _ h => h.elim)
  go_wp2_with fail
  refine (one_leaf hP4 (hT_keeps hT' kw3 hF.1 hF.2) hF (by omega) hs ha hp22 hL2).mono ?_
  rintro e w4 ⟨rfl, hP5, hp5, hk4⟩
  have kw4 := kw3.trans hk4 (fun _ _ h => h)
  have br4 := hk4.obj (hk3.obj br2 (fun h => h)) (by omega)
  have bg4 := owns_obj (owns_obj bg2 hk3 (fun k _ h => h)) hk4 (fun k hk e => by simp [Value.ownBlock] at hk; omega)
  have bn4 := hk4.obj (hk3.obj bn2 (fun h => h)) (by omega)
  have kC : Keeps none' w4 (w4.alloc (.cells (leafC K2 wd2) 24)) := Keeps.alloc _ _ _
  have bg5 := owns_obj bg4 kC (fun k _ h => h)
  have bn5 := kC.obj bn4 (fun h => h)
  have br5 := kC.obj br4 (fun h => h)
  have hP6 := hP5.keeps kC (fun h => h)
  have kw5 := kw4.trans kC (fun _ _ h => h.elim)
  have bl5 := heap_alloc_new w4 (.cells (leafC K2 wd2) 24)
  have hsz4 := kw4.size
  have hsz1 := hP3.lt
  go_wp2_with (at_builtin; (refine wpList_append_lies _ rfl _ _ 22 rfl (w.heap.size + 1) 24 i0 (.agg zeroQ) 5 72 Tryz.underlying22 hi hz0 hz1 hz2 rfl (by decide) (.slice (some ⟨w1.heap.size, 0, none⟩) 1 1) 1 (notC g1) rfl bg5 ⟨w4.heap.size, 0, none⟩ 1 1 (leafL K2 wd2) rfl rfl ?c1 ?c2 (by decide) (by decide) (by decide) (by simp; omega) (w4.heap.size + 1) (by simp) ?_))
  case c1 =>
    intro j u hj
    have hl := bl5
    rw [show (⟨w4.heap.size, 0, none⟩ : Addr).add j = ⟨w4.heap.size, j, none⟩ by unfold Addr.add; split <;> simp_all]
    match j, hj with
    | 0, hj => injection hj with hj; rw [← hj]; exact cell_of_row _ _ _ _ _ _ bl5
    | 1, hj => injection hj with hj; rw [← hj]; exact cell_of_row _ _ _ _ _ _ bl5
    | 2, hj => injection hj with hj; rw [← hj]; exact cell_of_row _ _ _ _ _ _ bl5
    | 3, hj => injection hj with hj; rw [← hj]; exact cell_of_row _ _ _ _ _ _ bl5
    | 4, hj => injection hj with hj; rw [← hj]; exact cell_of_row _ _ _ _ _ _ bl5
    | j + 5, hj => simp at hj
  case c2 =>
    intro u hu
    simp at hu
    rcases hu with rfl | rfl | rfl | rfl | rfl <;> rfl
  intro g cap w6 hown hgrow hlies hg6
  have hk6 : Keeps (fun k => k = w1.heap.size) (w4.alloc (.cells (leafC K2 wd2) 24)) w6 := Keeps.of_grownBy hgrow (fun r hr => by simp [Value.ownBlock] at hr; omega)
  have hP7 := hP6.keeps hk6 (by omega)
  have kw6 := kw5.trans hk6 (fun i hi e => by omega)
  have br6 := hk6.obj br5 (by omega)
  have bn6 := hk6.obj bn5 (by
    have h1 := lt_of_obj hgb
    omega)
  go_wp2_with fail
  refine (blanks_any hP7 (by omega) hs (q := s.size) (by rw [hp3, List.drop_eq_nil_of_le (by rw [bl_len]; omega)]; rfl)).mono ?_
  rintro e w7 ⟨rfl, hP8, hk7⟩
  have hgb6 : g ≠ b := by rcases hlies with e | e
                          · simp [Value.ownBlock] at e; omega
                          · omega
  have hg16 : g ≠ w.heap.size := by rcases hlies with e | e
                                    · simp [Value.ownBlock] at e; omega
                                    · omega
  have bh7 := owns_obj hown hk7 (fun k hk e => by simp [Value.ownBlock] at hk; omega)
  have kw7 := kw6.trans hk7 (fun _ _ h => h)
  have br7 := hk7.obj br6 (by omega)
  have bn7 := hk7.obj bn6 (by omega)
  go_wp2_with fail
  rw [rounds_succ]
  go_wp2_with fail
  refine (more1_end (hx.keeps kw7 hxb) hP8 rfl).mono ?_
  rintro e w8 ⟨rfl, hk8⟩
  have hP9 := hP8.keeps hk8 (fun h => h)
  have kw8 := kw7.trans hk8 (fun _ _ h => h.elim)
  have br8 := hk8.obj br7 (fun h => h)
  have bn8 := hk8.obj bn7 (fun h => h)
  have bh8 := owns_obj bh7 hk8 (fun k _ h => h)
  have r0 : w8.cell? ⟨w.heap.size, 0, none⟩ = some (.int .i64 0) := cell_of_row _ _ _ _ _ _ br8
  have r1 : w8.cell? ⟨w.heap.size, 1, none⟩ = some (.string ⟨#[]⟩) := cell_of_row _ _ _ _ _ _ br8
  have r2 : w8.cell? ⟨w.heap.size, 2, none⟩ = some (.string ⟨#[]⟩) := cell_of_row _ _ _ _ _ _ br8
  have r3 : w8.cell? ⟨w.heap.size, 3, none⟩ = some (.int .i64 0) := cell_of_row _ _ _ _ _ _ br8
  have r4 : w8.cell? ⟨w.heap.size, 4, none⟩ = some (.slice none 0 0) := cell_of_row _ _ _ _ _ _ br8
  have g0 := frozen_cells br8 0
  have g1' := frozen_cells br8 1
  have g2 := frozen_cells br8 2
  have g3 := frozen_cells br8 3
  have g4 := frozen_cells br8 4
  have fin : ∀ W, Keeps (fun k => k = w.heap.size) w8 W → QA (w.heap.size + 1) K1 K2 wd1 wd2 (.agg #[.int .i64 7, .string ⟨#[]⟩, .string ⟨#[]⟩, .int .i64 0, .slice (some ⟨g, 0, none⟩) 2 cap]) W ∧ Ps W b s s.size d ∧ Keeps (fun k => k = b) w W := fun W hk => ⟨QA.keeps ⟨g1, g, cap, rfl, hg1', bn8, bh8⟩ hk (fun k hk e => by omega), hP9.keeps hk (by omega), kw8.trans hk (fun i hi e => by omega)⟩
  clear kw8 hP9 bn8 bh8 br8 kw7 hP8 bn7 bh7 br7 hk8 hk7 hk6 hk4 hk3 hk2 hk1 kw6 kw5 kw4 kw3 kw2 kw1 hown hgrow
  go_wp2
  simp [bodyPost, results, Tryz.results72, go_sem, r0, r1, r2, r3, r4]
  exact fin _ (Keeps.set5 _ _ _ _ _ _ _)
end Go.Proofs.YtlomjbfhalmalaaGreatDoor.C
set_option linter.unusedVariables false
set_option linter.unusedSimpArgs false
namespace Go.Proofs.YtlomjbfhalmalaaGreatDoor.C
open Go Go.RowKit Go.Shelf Go.Proofs.YtlomjbfhalmalaaGreatDoor.M Go.Proofs.YtlomjbfhalmalaaGreatDoor.Z
set_option maxHeartbeats 4000000 in
set_option maxRecDepth 100000 in
theorem all_gen {w : World} {b : Nat} {s : ByteArray} {p2 d : Nat} (hb : b < w.heap.size) (Q : Value → World → Prop)
    (cR : Calls Tryz.prog 72 #[.pointer (some ⟨b, 0, none⟩), .int .i64 7, .func (.func 95) #[.pointer (some ⟨b, 0, none⟩)] #[], .func (.func 96) #[] #[.pointer (some ⟨w.heap.size, 0, none⟩)]] ((w.alloc (.cells #[.pointer (some ⟨b, 0, none⟩)] 83)).alloc (.cells zeroQ 24)) fun e w' => ∃ v, e = .returned v ∧ Q v w' ∧ Ps w' b s p2 d ∧ Keeps (fun k => k = b) ((w.alloc (.cells #[.pointer (some ⟨b, 0, none⟩)] 83)).alloc (.cells zeroQ 24)) w')
    (hQ : ∀ v W W', Q v W → Keeps (fun k => k = w.heap.size + 1) W W' → Q v W')
    (hV : ∀ v W, Q v W → ∃ a y z n A l c, v = .agg #[.int .i64 a, .string y, .string z, .int .i64 n, .slice A l c]) :
    Calls Tryz.prog 73 #[.pointer (some ⟨b, 0, none⟩)] w fun e w' => ∃ v, e = .returned v ∧ Q v w' ∧ Ps w' b s p2 d ∧ Keeps (fun k => k = b) w w' := by
  have hmf : ∀ (fn : Fn) (first cap : Array Value) (w : World), (Instr.makeFunc fn first cap).run Tryz.prog w = .ok (.func fn first cap) w := fun _ _ _ _ => rfl
  have k1 : Keeps none' w (w.alloc (.cells #[.pointer (some ⟨b, 0, none⟩)] 83)) := Keeps.alloc _ _ _
  have k2 : Keeps none' w ((w.alloc (.cells #[.pointer (some ⟨b, 0, none⟩)] 83)).alloc (.cells zeroQ 24)) := k1.trans (Keeps.alloc none' _ _) (fun _ _ h => h)
  have hsz : (w.alloc (.cells #[.pointer (some ⟨b, 0, none⟩)] 83)).heap.size = w.heap.size + 1 := by simp
  have br := heap_alloc_new (w.alloc (.cells #[.pointer (some ⟨b, 0, none⟩)] 83)) (.cells zeroQ 24)
  have bx := (Keeps.alloc none' (w.alloc (.cells #[.pointer (some ⟨b, 0, none⟩)] 83)) (.cells zeroQ 24)).obj (heap_alloc_new w (.cells #[.pointer (some ⟨b, 0, none⟩)] 83)) (fun h => h)
  rw [hsz] at br
  have cx : ((w.alloc (.cells #[.pointer (some ⟨b, 0, none⟩)] 83)).alloc (.cells zeroQ 24)).cell? ⟨w.heap.size, 0, none⟩ = some (.pointer (some ⟨b, 0, none⟩)) := cell_of_row _ _ _ _ _ _ bx
  go_enter Tryz.func73, Tryz.ntmps73
  go_wp2_with fail
  refine cR.mono ?_
  rintro e w1 ⟨v, rfl, hq1, hP1, hk1⟩
  obtain ⟨a, y, z, n, A, l, c, rfl⟩ := hV _ _ hq1
  have br3 := hk1.obj br (by omega)
  have kw := (k2.mono (Z' := fun k => k = b) (fun _ _ h => h.elim)).trans hk1 (fun _ _ h => h)
  have r0 : w1.cell? ⟨w.heap.size + 1, 0, none⟩ = some (.int .i64 0) := cell_of_row _ _ _ _ _ _ br3
  have r1 : w1.cell? ⟨w.heap.size + 1, 1, none⟩ = some (.string ⟨#[]⟩) := cell_of_row _ _ _ _ _ _ br3
  have r2 : w1.cell? ⟨w.heap.size + 1, 2, none⟩ = some (.string ⟨#[]⟩) := cell_of_row _ _ _ _ _ _ br3
  have r3 : w1.cell? ⟨w.heap.size + 1, 3, none⟩ = some (.int .i64 0) := cell_of_row _ _ _ _ _ _ br3
  have r4 : w1.cell? ⟨w.heap.size + 1, 4, none⟩ = some (.slice none 0 0) := cell_of_row _ _ _ _ _ _ br3
  have g0 := frozen_cells br3 0
  have g1 := frozen_cells br3 1
  have g2 := frozen_cells br3 2
  have g3 := frozen_cells br3 3
  have g4 := frozen_cells br3 4
  have fin : ∀ W, Keeps (fun k => k = w.heap.size + 1) w1 W → Q (.agg #[.int .i64 a, .string y, .string z, .int .i64 n, .slice A l c]) W ∧ Ps W b s p2 d ∧ Keeps (fun k => k = b) w W := fun W hk => ⟨hQ _ _ _ hq1 hk, hP1.keeps hk (by omega), kw.trans hk (fun i hi e => by omega)⟩
  clear cR hQ hV k1 k2 br bx cx hk1 br3 kw hq1
  go_wp2
  simp [bodyPost, results, Tryz.results73, go_sem, r0, r1, r2, r3, r4]
  exact fin _ (Keeps.set5 _ _ _ _ _ _ _)
set_option maxHeartbeats 4000000 in
set_option maxRecDepth 100000 in
theorem any_gen {w : World} {b : Nat} {s : ByteArray} {p2 d : Nat} (hb : b < w.heap.size) (Q : Value → World → Prop)
    (cR : Calls Tryz.prog 72 #[.pointer (some ⟨b, 0, none⟩), .int .i64 8, .func (.func 73) #[.pointer (some ⟨b, 0, none⟩)] #[], .func (.func 74) #[] #[.pointer (some ⟨w.heap.size, 0, none⟩)]] ((w.alloc (.cells #[.pointer (some ⟨b, 0, none⟩)] 83)).alloc (.cells zeroQ 24)) fun e w' => ∃ v, e = .returned v ∧ Q v w' ∧ Ps w' b s p2 d ∧ Keeps (fun k => k = b) ((w.alloc (.cells #[.pointer (some ⟨b, 0, none⟩)] 83)).alloc (.cells zeroQ 24)) w')
    (hQ : ∀ v W W', Q v W → Keeps (fun k => k = w.heap.size + 1) W W' → Q v W')
    (hV : ∀ v W, Q v W → ∃ a y z n A l c, v = .agg #[.int .i64 a, .string y, .string z, .int .i64 n, .slice A l c]) :
    Calls Tryz.prog 52 #[.pointer (some ⟨b, 0, none⟩)] w fun e w' => ∃ v, e = .returned v ∧ Q v w' ∧ Ps w' b s p2 d ∧ Keeps (fun k => k = b) w w' := by
  have hmf : ∀ (fn : Fn) (first cap : Array Value) (w : World), (Instr.makeFunc fn first cap).run Tryz.prog w = .ok (.func fn first cap) w := fun _ _ _ _ => rfl
  have k1 : Keeps none' w (w.alloc (.cells #[.pointer (some ⟨b, 0, none⟩)] 83)) := Keeps.alloc _ _ _
  have k2 : Keeps none' w ((w.alloc (.cells #[.pointer (some ⟨b, 0, none⟩)] 83)).alloc (.cells zeroQ 24)) := k1.trans (Keeps.alloc none' _ _) (fun _ _ h => h)
  have hsz : (w.alloc (.cells #[.pointer (some ⟨b, 0, none⟩)] 83)).heap.size = w.heap.size + 1 := by simp
  have br := heap_alloc_new (w.alloc (.cells #[.pointer (some ⟨b, 0, none⟩)] 83)) (.cells zeroQ 24)
  have bx := (Keeps.alloc none' (w.alloc (.cells #[.pointer (some ⟨b, 0, none⟩)] 83)) (.cells zeroQ 24)).obj (heap_alloc_new w (.cells #[.pointer (some ⟨b, 0, none⟩)] 83)) (fun h => h)
  rw [hsz] at br
  have cx : ((w.alloc (.cells #[.pointer (some ⟨b, 0, none⟩)] 83)).alloc (.cells zeroQ 24)).cell? ⟨w.heap.size, 0, none⟩ = some (.pointer (some ⟨b, 0, none⟩)) := cell_of_row _ _ _ _ _ _ bx
  go_enter Tryz.func52, Tryz.ntmps52
  go_wp2_with fail
  refine cR.mono ?_
  rintro e w1 ⟨v, rfl, hq1, hP1, hk1⟩
  obtain ⟨a, y, z, n, A, l, c, rfl⟩ := hV _ _ hq1
  have br3 := hk1.obj br (by omega)
  have kw := (k2.mono (Z' := fun k => k = b) (fun _ _ h => h.elim)).trans hk1 (fun _ _ h => h)
  have r0 : w1.cell? ⟨w.heap.size + 1, 0, none⟩ = some (.int .i64 0) := cell_of_row _ _ _ _ _ _ br3
  have r1 : w1.cell? ⟨w.heap.size + 1, 1, none⟩ = some (.string ⟨#[]⟩) := cell_of_row _ _ _ _ _ _ br3
  have r2 : w1.cell? ⟨w.heap.size + 1, 2, none⟩ = some (.string ⟨#[]⟩) := cell_of_row _ _ _ _ _ _ br3
  have r3 : w1.cell? ⟨w.heap.size + 1, 3, none⟩ = some (.int .i64 0) := cell_of_row _ _ _ _ _ _ br3
  have r4 : w1.cell? ⟨w.heap.size + 1, 4, none⟩ = some (.slice none 0 0) := cell_of_row _ _ _ _ _ _ br3
  have g0 := frozen_cells br3 0
  have g1 := frozen_cells br3 1
  have g2 := frozen_cells br3 2
  have g3 := frozen_cells br3 3
  have g4 := frozen_cells br3 4
  have fin : ∀ W, Keeps (fun k => k = w.heap.size + 1) w1 W → Q (.agg #[.int .i64 a, .string y, .string z, .int .i64 n, .slice A l c]) W ∧ Ps W b s p2 d ∧ Keeps (fun k => k = b) w W := fun W hk => ⟨hQ _ _ _ hq1 hk, hP1.keeps hk (by omega), kw.trans hk (fun i hi e => by omega)⟩
  clear cR hQ hV k1 k2 br bx cx hk1 br3 kw hq1
  go_wp2
  simp [bodyPost, results, Tryz.results52, go_sem, r0, r1, r2, r3, r4]
  exact fin _ (Keeps.set5 _ _ _ _ _ _ _)
end Go.Proofs.YtlomjbfhalmalaaGreatDoor.C
set_option linter.unusedVariables false
set_option linter.unusedSimpArgs false
namespace Go.Proofs.YtlomjbfhalmalaaGreatDoor.C
open Go Go.RowKit Go.Shelf Go.Proofs.YtlomjbfhalmalaaGreatDoor.M Go.Proofs.YtlomjbfhalmalaaGreatDoor.Z
abbrev sA : ByteArray := ⟨#[45, 97, 32, 98, 42]⟩
abbrev sB : ByteArray := ⟨#[97, 32, 41]⟩
theorem eOne : ∀ args w, (callFunc 95 args).run Tryz.prog w = .ok (.enter 95 args) w := by intro args w; kernel_rfl
theorem eAll : ∀ args w, (callFunc 73 args).run Tryz.prog w = .ok (.enter 73 args) w := by intro args w; kernel_rfl
theorem eM1 : ∀ args w, (callFunc 96 args).run Tryz.prog w = .ok (.enter 96 args) w := by intro args w; kernel_rfl
theorem eM2 : ∀ args w, (callFunc 74 args).run Tryz.prog w = .ok (.enter 74 args) w := by intro args w; kernel_rfl
theorem asA : ∀ c ∈ bl sA, c.toNat < 128 ∧ c ≠ 92 := by decide
theorem asB : ∀ c ∈ bl sB, c.toNat < 128 ∧ c ≠ 92 := by decide
theorem lfA1 : LeafAt sA 1 2 1 [97] [97] 0 0 false := ⟨by decide, by decide, by decide, by decide, by decide, .inl ⟨rfl, rfl⟩, by kernel_rfl⟩
theorem lfA2 : LeafAt sA 3 5 2 [98] [98, 42] 1 4 true := ⟨by decide, by decide, by decide, by decide, by decide, .inr ⟨rfl, rfl, by decide, rfl⟩, by kernel_rfl⟩
theorem lfB : LeafAt sB 0 1 1 [97] [97] 0 0 false := ⟨by decide, by decide, by decide, by decide, by decide, .inl ⟨rfl, rfl⟩, by kernel_rfl⟩
theorem QA.agg {lo : Nat} {K1 K2 : Int} {wd1 wd2 : List UInt8} (v : Value) (W : World) (h : QA lo K1 K2 wd1 wd2 v W) : ∃ a y z n A l c, v = .agg #[.int .i64 a, .string y, .string z, .int .i64 n, .slice A l c] := by
  obtain ⟨g1, g, cap, rfl, _⟩ := h
  exact ⟨_, _, _, _, _, _, _, rfl⟩
theorem any_A {w : World} {b : Nat} (h : Ps w b sA 0 0) (hT' : hT w) (hF : Far b) :
    Calls Tryz.prog 52 #[.pointer (some ⟨b, 0, none⟩)] w fun e w' => ∃ v, e = .returned v ∧ QA (w.heap.size + 6) 1 2 [97] [98] v w' ∧ Ps w' b sA 5 0 ∧ Keeps (fun k => k = b) w w' := by
  have hb := h.lt
  have hs : sA.size ≤ 140737488351232 := by decide
  let w1 := w.alloc (.cells #[.pointer (some ⟨b, 0, none⟩)] 83)
  let w2 := w1.alloc (.cells zeroQ 24)
  let w3 := w2.alloc (.cells zeroQ 24)
  let w4 := w3.alloc (.cells #[.pointer (some ⟨b, 0, none⟩)] 83)
  let w5 := w4.alloc (.cells zeroQ 24)
  have z1 : w1.heap.size = w.heap.size + 1 := by simp [w1]
  have z2 : w2.heap.size = w.heap.size + 2 := by simp [w2, z1]
  have z3 : w3.heap.size = w.heap.size + 3 := by simp [w3, z2]
  have z4 : w4.heap.size = w.heap.size + 4 := by simp [w4, z3]
  have z5 : w5.heap.size = w.heap.size + 5 := by simp [w5, z4]
  have k1 : Keeps none' w w1 := Keeps.alloc _ _ _
  have k2 : Keeps none' w1 w2 := Keeps.alloc _ _ _
  have k3 : Keeps none' w2 w3 := Keeps.alloc _ _ _
  have k4 : Keeps none' w3 w4 := Keeps.alloc _ _ _
  have k5 : Keeps none' w4 w5 := Keeps.alloc _ _ _
  have k02 := k1.trans k2 (fun _ _ h => h)
  have k05 := ((k02.trans k3 (fun _ _ h => h)).trans k4 (fun _ _ h => h)).trans k5 (fun _ _ h => h)
  have x2 : Box w2 w.heap.size b := k2.obj (heap_alloc_new w _) (fun h => h)
  have x5 : Box w5 w3.heap.size b := k5.obj (heap_alloc_new w3 _) (fun h => h)
  have r2 := row_two (w := w5) (h.keeps k05 (fun h => h)) (hT_keeps hT' k05 (fun h => h) (fun h => h)) hF x5 (by omega) (by decide) (by decide) hs asA (q := 0) (q' := 1) (by decide) (by decide) (by decide) (by kernel_rfl) (by decide) lfA1 (p2 := 3) (by decide) (by decide) (by decide) (by decide) lfA2 (by decide)
  have ca := all_gen (w := w3) (b := b) (s := sA) (p2 := 5) (d := 0) (by omega) (QA (w.heap.size + 6) 1 2 [97] [98]) (r2.mono fun e w' ⟨v, h1, h2, h3, h4⟩ => ⟨v, h1, by rw [z5] at h2; exact h2, h3, h4⟩)
    (fun v W W' hq hk => hq.keeps hk (fun k hk e => by omega)) QA.agg
  have rs := row_single (w := w2) (b := b) (x := w.heap.size) (s := sA) (p1 := 5) (p2 := 5) (d := 0) (F := 73) (G := 74) (k := 8) (by omega) x2 (by omega) hs eAll eM2 (QA (w.heap.size + 6) 1 2 [97] [98]) (ca.mono fun e w' ⟨v, h1, h2, h3, h4⟩ => ⟨v, h1, h2, h3, by decide, h4⟩)
    (fun v W W' hq hk => hq.keeps hk (fun k hk e => by rcases e with e | e <;> omega)) QA.agg (by decide) (fun W hx hP => more2_no hx hP (by decide) hs (by decide))
  exact any_gen hb (QA (w.heap.size + 6) 1 2 [97] [98]) rs (fun v W W' hq hk => hq.keeps hk (fun k hk e => by omega)) QA.agg
theorem any_B {w : World} {b : Nat} (h : Ps w b sB 0 0) (hT' : hT w) (hF : Far b) :
    Calls Tryz.prog 52 #[.pointer (some ⟨b, 0, none⟩)] w fun e w' => ∃ v, e = .returned v ∧ v = leafV 1 [97] ∧ Ps w' b sB 2 0 ∧ Keeps (fun k => k = b) w w' := by
  have hb := h.lt
  have hs : sB.size ≤ 140737488351232 := by decide
  let w1 := w.alloc (.cells #[.pointer (some ⟨b, 0, none⟩)] 83)
  let w2 := w1.alloc (.cells zeroQ 24)
  let w3 := w2.alloc (.cells zeroQ 24)
  let w4 := w3.alloc (.cells #[.pointer (some ⟨b, 0, none⟩)] 83)
  let w5 := w4.alloc (.cells zeroQ 24)
  let w6 := w5.alloc (.cells zeroQ 24)
  have z1 : w1.heap.size = w.heap.size + 1 := by simp [w1]
  have z2 : w2.heap.size = w.heap.size + 2 := by simp [w2, z1]
  have z3 : w3.heap.size = w.heap.size + 3 := by simp [w3, z2]
  have z4 : w4.heap.size = w.heap.size + 4 := by simp [w4, z3]
  have z5 : w5.heap.size = w.heap.size + 5 := by simp [w5, z4]
  have k1 : Keeps none' w w1 := Keeps.alloc _ _ _
  have k2 : Keeps none' w1 w2 := Keeps.alloc _ _ _
  have k3 : Keeps none' w2 w3 := Keeps.alloc _ _ _
  have k4 : Keeps none' w3 w4 := Keeps.alloc _ _ _
  have k5 : Keeps none' w4 w5 := Keeps.alloc _ _ _
  have k6 : Keeps none' w5 w6 := Keeps.alloc _ _ _
  have k02 := k1.trans k2 (fun _ _ h => h)
  have k06 := (((k02.trans k3 (fun _ _ h => h)).trans k4 (fun _ _ h => h)).trans k5 (fun _ _ h => h)).trans k6 (fun _ _ h => h)
  have x2 : Box w2 w.heap.size b := k2.obj (heap_alloc_new w _) (fun h => h)
  have x5 : Box w5 w3.heap.size b := k5.obj (heap_alloc_new w3 _) (fun h => h)
  have hV : ∀ (v : Value) (W : World), v = leafV 1 [97] → ∃ a y z n A l c, v = .agg #[.int .i64 a, .string y, .string z, .int .i64 n, .slice A l c] := fun v W e => ⟨_, _, _, _, _, _, _, e⟩
  have ol := one_leaf (w := w6) (h.keeps k06 (fun h => h)) (hT_keeps hT' k06 (fun h => h) (fun h => h)) hF (by decide) hs asB (q := 0) (by decide) lfB
  have r1 := row_single (w := w5) (b := b) (x := w3.heap.size) (s := sB) (p1 := 1) (p2 := 2) (d := 0) (F := 95) (G := 96) (k := 7) (by omega) x5 (by omega) hs eOne eM1 (fun v _ => v = leafV 1 [97]) (ol.mono fun e w' ⟨h1, h2, h3, h4⟩ => ⟨_, h1, rfl, h2, h3, h4⟩)
    (fun v W W' hq _ => hq) hV (by decide) (fun W hx hP => more1_at hx hP (by decide) (c := 41) (by decide) (.inr ⟨rfl, rfl⟩))
  have ca := all_gen (w := w3) (b := b) (s := sB) (p2 := 2) (d := 0) (by omega) (fun v _ => v = leafV 1 [97]) r1 (fun v W W' hq hk => hq) hV
  have rs := row_single (w := w2) (b := b) (x := w.heap.size) (s := sB) (p1 := 2) (p2 := 2) (d := 0) (F := 73) (G := 74) (k := 8) (by omega) x2 (by omega) hs eAll eM2 (fun v _ => v = leafV 1 [97]) (ca.mono fun e w' ⟨v, h1, h2, h3, h4⟩ => ⟨v, h1, h2, h3, by decide, h4⟩)
    (fun v W W' hq hk => hq) hV (by decide) (fun W hx hP => more2_no hx hP (by decide) hs (by decide))
  exact any_gen hb (fun v _ => v = leafV 1 [97]) rs (fun v W W' hq hk => hq) hV
end Go.Proofs.YtlomjbfhalmalaaGreatDoor.C
set_option linter.unusedVariables false
set_option linter.unusedSimpArgs false
namespace Go.Proofs.YtlomjbfhalmalaaGreatDoor.C
open Go Go.RowKit Go.Shelf Go.Proofs.YtlomjbfhalmalaaGreatDoor.M Go.Proofs.YtlomjbfhalmalaaGreatDoor.Z
abbrev fault (no at_ : Int) : Value := .iface 74 (.agg #[.int .i64 no, .int .i64 0, .int .i64 at_])
set_option maxHeartbeats 4000000 in
set_option maxRecDepth 100000 in
theorem catch_idle (r : Nat) (w : World) :
    CallsD Tryz.prog 51 #[.pointer (some ⟨r, 0, none⟩), .pointer (some ⟨r + 1, 0, none⟩)] .returning w fun e u' w' => e = .returned (.tuple #[]) ∧ u' = .returning ∧ w' = w := by
  refine callsD_of_wpS Tryz.func51 rfl fun c₀ cs hu => ?_
  apply wpS_seq
  apply wpS_region
  simp [wpOpsS, go_sem, recoverD, hu, Tryz.ntmps51, Exit.thenS]
  refine wpS_of_wp ?_
  go_wp2
  cases c₀
  simp_all [bodyPostS, results, Tryz.results51]
set_option maxHeartbeats 4000000 in
set_option maxRecDepth 100000 in
theorem catch_fault (r : Nat) (no at_ : Int) (w : World) (o0 o1 o2 o3 o4 o5 : Value) (h0 : w.heap[r]? = some (.cells #[o0, o1, o2, o3, o4] 24 (0, 0))) (h1 : w.heap[r + 1]? = some (.cells #[o5] 30 (0, 0))) :
    CallsD Tryz.prog 51 #[.pointer (some ⟨r, 0, none⟩), .pointer (some ⟨r + 1, 0, none⟩)] (.panicking [{ v := fault no at_, recovered := false }]) w fun e u' w' => e = .returned (.tuple #[]) ∧ u' = .panicking [{ v := fault no at_, recovered := true }] ∧
      w'.heap[r]? = some (.cells zeroQ 24 (0, 0)) ∧ w'.heap[r + 1]? = some (.cells #[fault no at_] 30 (0, 0)) ∧ Keeps (fun k => k = r ∨ k = r + 1) w w' := by
  have hta : ∀ (w : World), (Instr.typeAssert (fault no at_) 20 74 true).run Tryz.prog w = .ok (.tuple #[.agg #[.int .i64 no, .int .i64 0, .int .i64 at_], .bool true]) w := fun w => by kernel_rfl
  have r0 : w.cell? ⟨r, 0, none⟩ = some o0 := cell_of_row _ _ _ _ _ _ h0
  refine callsD_of_wpS Tryz.func51 rfl fun c₀ cs hu => ?_
  apply wpS_seq
  apply wpS_region
  simp [wpOpsS, go_sem, recoverD, hu, Tryz.ntmps51, Exit.thenS]
  refine wpS_of_wp ?_
  show (Code.wp _ _ _ { tmps := #[.pointer (some ⟨r, 0, none⟩), .pointer (some ⟨r + 1, 0, none⟩), undef, undef, undef, fault no at_, undef, undef, undef, undef, undef, undef, undef, undef], defers := [] } _)
  go_wp2
  have kA : Keeps none' w (w.alloc (.cells #[.int .i64 no, .int .i64 0, .int .i64 at_] 74)) := Keeps.alloc _ _ _
  have bf := heap_alloc_new w (.cells #[.int .i64 no, .int .i64 0, .int .i64 at_] 74)
  have b0 := kA.obj h0 (fun h => h)
  have b1 := kA.obj h1 (fun h => h)
  have hr : r < w.heap.size := lt_of_obj h0
  have hr1 : r + 1 < w.heap.size := lt_of_obj h1
  obtain ⟨w1, hw1⟩ : ∃ w1, w.alloc (.cells #[.int .i64 no, .int .i64 0, .int .i64 at_] 74) = w1 := ⟨_, rfl⟩
  obtain ⟨f, hf⟩ : ∃ f, w.heap.size = f := ⟨_, rfl⟩
  rw [hw1] at kA bf b0 b1
  rw [hf] at bf hr hr1
  have n1 : r ≠ f := by omega
  have n2 : r + 1 ≠ f := by omega
  have n3 : f ≠ r := by omega
  have n4 : f ≠ r + 1 := by omega
  have c0 : w1.cell? ⟨r, 0, none⟩ = some o0 := cell_of_row _ _ _ _ _ _ b0
  have c1 : w1.cell? ⟨r, 1, none⟩ = some o1 := cell_of_row _ _ _ _ _ _ b0
  have c2 : w1.cell? ⟨r, 2, none⟩ = some o2 := cell_of_row _ _ _ _ _ _ b0
  have c3 : w1.cell? ⟨r, 3, none⟩ = some o3 := cell_of_row _ _ _ _ _ _ b0
  have c4 : w1.cell? ⟨r, 4, none⟩ = some o4 := cell_of_row _ _ _ _ _ _ b0
  have z0 := frozen_cells b0 0
  have z1 := frozen_cells b0 1
  have z2 := frozen_cells b0 2
  have z3 := frozen_cells b0 3
  have z4 := frozen_cells b0 4
  have d0 : w1.cell? ⟨r + 1, 0, none⟩ = some o5 := cell_of_row _ _ _ _ _ _ b1
  have y0 := frozen_cells b1 0
  have e0 : w1.cell? ⟨f, 0, none⟩ = some (.int .i64 no) := cell_of_row _ _ _ _ _ _ bf
  have e1 : w1.cell? ⟨f, 1, none⟩ = some (.int .i64 0) := cell_of_row _ _ _ _ _ _ bf
  have e2 : w1.cell? ⟨f, 2, none⟩ = some (.int .i64 at_) := cell_of_row _ _ _ _ _ _ bf
  clear hta r0
  have bz := cell_modify (cell_modify (cell_modify (cell_modify (cell_modify b0 0 (.int .i64 0)) 1 (.string ⟨#[]⟩)) 2 (.string ⟨#[]⟩)) 3 (.int .i64 0)) 4 (.slice none 0 0)
  have k5 := Keeps.set5 w1 r (.int .i64 0) (.string ⟨#[]⟩) (.string ⟨#[]⟩) (.int .i64 0) (.slice none 0 0)
  have b15 := k5.obj b1 (by omega)
  obtain ⟨w5, hw5⟩ : ∃ w5, (((((w1.setCell ⟨r, 0, none⟩ (.int .i64 0)).setCell ⟨r, 1, none⟩ (.string ⟨#[]⟩)).setCell ⟨r, 2, none⟩ (.string ⟨#[]⟩)).setCell ⟨r, 3, none⟩ (.int .i64 0)).setCell ⟨r, 4, none⟩ (.slice none 0 0)) = w5 := ⟨_, rfl⟩
  have k6 : Keeps (fun k => k = r + 1) w5 (w5.setCell ⟨r + 1, 0, none⟩ (fault no at_)) := Keeps.setCell _ _ _ rfl
  rw [hw5] at bz k5 b15
  have bz6 := k6.obj bz (by omega)
  have b16 := cell_modify b15 0 (fault no at_)
  have kw := (((kA.mono (Z' := fun k => k = r ∨ k = r + 1) (fun _ _ h => h.elim)).trans k5 (fun _ _ h => .inl h)).trans k6 (fun _ _ h => .inr h)).trans (Keeps.drew (fun k => k = r ∨ k = r + 1) _) (fun _ _ h => h)
  have HW5 := Lib.hid hw5
  clear k5 k6 kA bz b15 b0 b1 bf h0 h1 hw5
  go_region
  rw [HW5.out]
  go_wp2
  cases c₀
  simp only at hu
  subst hu
  simp [bodyPostS, results, Tryz.results51]
  exact ⟨bz6, b16, kw⟩
end Go.Proofs.YtlomjbfhalmalaaGreatDoor.C
