/-
  Of this seat's texts what the claim wants (printed by a program): D7.
-/
import Derived.Test.YtekoeobfddfgpaaGreatDoorRD6
set_option linter.unusedVariables false
set_option linter.unusedSimpArgs false
namespace Go.Proofs.YtekoeobfddfgpaaGreatDoor.C
open Go Go.RowKit Go.Shelf Go.Proofs.YtekoeobfddfgpaaGreatDoor.M Go.Proofs.YtekoeobfddfgpaaGreatDoor.Z
theorem Tryz.infoTok : (Tryz.prog.info? 38).map (fun i => (i.zero, i.size, i.bytes)) = some (some (.agg #[.int .i64 0, .string ⟨#[]⟩, .int .i64 0, .int .i64 0, .int .i64 0]), 5, 48) := by kernel_rfl
def tokC (k : Int) (x : ByteArray) (ln cl p : Nat) : List Value := [.int .i64 k, .string x, .int .i64 (ln : Nat), .int .i64 (cl : Nat), .int .i64 (p : Nat)]
set_option maxHeartbeats 2000000 in
set_option maxRecDepth 100000 in
theorem put_any {w : World} {B b : Nat} {s : ByteArray} {p ln cl : Nat} {v : Value} {m : Nat} {xs : List Value} (h : Sc w B b s p ln cl v m xs) (hs : s.size ≤ 140737488351232) (n : Nat) (hn : p + n ≤ s.size) (k : Int) (x : ByteArray) (hm : m ≤ 1048577) (hB : B ≤ w.heap.size) :
    Calls Tryz.prog 44 #[.pointer (some ⟨b, 0, none⟩), .int .i64 k, .string x, .int .i64 (n : Nat)] w fun e w' => e = .returned (.tuple #[]) ∧
      ∃ v', Sc w' B b s (p + n) (skipP (ln, cl) (((bl s).drop p).take n)).1 (skipP (ln, cl) (((bl s).drop p).take n)).2 v' (m + 1) (xs ++ tokC k x ln cl p) ∧ Keeps (fun k => k = b ∨ v.ownBlock = some k) w w' ∧ (∀ g, v'.ownBlock = some g → v.ownBlock = some g ∨ w.heap.size ≤ g) := by
  obtain ⟨i0, hi, hz0, hz1, hz2⟩ := info_parts Tryz.infoTok
  obtain ⟨c0, c1, c2, c3, c4⟩ := h.cells
  have f4 := frozen_cells h.blk 4
  have hbl : b < w.heap.size := lt_of_obj h.blk
  have Hs := Lib.hid h
  obtain ⟨T, hT⟩ : ∃ T, w.alloc (.cells #[.int .i64 k, .string x, .int .i64 (ln : Nat), .int .i64 (cl : Nat), .int .i64 (p : Nat)] 38) = T := ⟨_, rfl⟩
  have hT1 : T.heap[w.heap.size]? = some (.cells #[.int .i64 k, .string x, .int .i64 (ln : Nat), .int .i64 (cl : Nat), .int .i64 (p : Nat)] 38 (0, 0)) := by rw [← hT]; exact heap_alloc_new w _
  have hTk : Keeps none' w T := by rw [← hT]; exact Keeps.alloc _ _ _
  have hTz : T.heap.size = w.heap.size + 1 := by rw [← hT]; simp
  have rowT : T.drew.ownsRow B 38 5 v m xs := owns_obj h.row (hTk.trans (Keeps.drew _ _) (fun _ _ h => h)) (fun _ _ h => h)
  have hnews : ∀ (j : Nat) u, (tokC k x ln cl p)[j]? = some u → T.drew.cell? ((⟨w.heap.size, 0, none⟩ : Addr).add j) = some u := by
    intro j u hj
    have c0 : T.drew.cell? ⟨w.heap.size, 0, none⟩ = some (.int .i64 k) := cell_of_row _ _ _ _ _ _ hT1
    have c1 : T.drew.cell? ⟨w.heap.size, 1, none⟩ = some (.string x) := cell_of_row _ _ _ _ _ _ hT1
    have c2 : T.drew.cell? ⟨w.heap.size, 2, none⟩ = some (.int .i64 (ln : Nat)) := cell_of_row _ _ _ _ _ _ hT1
    have c3 : T.drew.cell? ⟨w.heap.size, 3, none⟩ = some (.int .i64 (cl : Nat)) := cell_of_row _ _ _ _ _ _ hT1
    have c4 : T.drew.cell? ⟨w.heap.size, 4, none⟩ = some (.int .i64 (p : Nat)) := cell_of_row _ _ _ _ _ _ hT1
    unfold tokC at hj
    match j, hj with
    | 0, hj => injection hj with hj; rw [← hj]; exact c0
    | 1, hj => injection hj with hj; rw [← hj]; exact c1
    | 2, hj => injection hj with hj; rw [← hj]; exact c2
    | 3, hj => injection hj with hj; rw [← hj]; exact c3
    | 4, hj => injection hj with hj; rw [← hj]; exact c4
    | j + 5, hj => simp at hj
  rw [← hT] at rowT hnews
  have hstep : ∀ w1 : World, ((w.alloc (.cells #[.int .i64 k, .string x, .int .i64 (ln : Nat), .int .i64 (cl : Nat), .int .i64 (p : Nat)] 38)).drew).grownBy w1 v.ownBlock →
      w1.heap[b]? = some (.cells #[.string s, .int .i64 (p : Nat), .int .i64 (ln : Nat), .int .i64 (cl : Nat), v] 51 (0, 0)) ∧ w1.frozen? ⟨b, 4, none⟩ = false ∧ w1.cell? ⟨b, 4, none⟩ = some v ∧ Keeps (fun k => v.ownBlock = some k) w w1 := fun w1 hg => by
    rw [hT] at hg
    have kk : Keeps (fun k => v.ownBlock = some k) w w1 := ((hTk.trans (Keeps.drew _ _) (fun _ _ h => h)).mono (fun _ _ h => h.elim)).trans (Keeps.of_grownBy (Z := fun k => v.ownBlock = some k) hg (fun r e => e)) (fun _ _ e => e)
    have hb1 := kk.obj h.blk h.ne
    exact ⟨hb1, frozen_cells hb1 4, cell_of_row _ _ _ _ _ _ hb1, kk⟩
  have htail : ∀ (g cap : Nat) (w1 : World), w1.ownsRow B 38 5 (.slice (some ⟨g, 0, none⟩) (m + 1) cap) (m + 1) (xs ++ tokC k x ln cl p) → ((w.alloc (.cells #[.int .i64 k, .string x, .int .i64 (ln : Nat), .int .i64 (cl : Nat), .int .i64 (p : Nat)] 38)).drew).grownBy w1 v.ownBlock →
      (v.ownBlock = some g ∨ g = ((w.alloc (.cells #[.int .i64 k, .string x, .int .i64 (ln : Nat), .int .i64 (cl : Nat), .int .i64 (p : Nat)] 38)).drew).heap.size) →
      Sc (w1.setCell ⟨b, 4, none⟩ (.slice (some ⟨g, 0, none⟩) (m + 1) cap)) B b s p ln cl (.slice (some ⟨g, 0, none⟩) (m + 1) cap) (m + 1) (xs ++ tokC k x ln cl p) ∧ Keeps (fun k => k = b ∨ v.ownBlock = some k) w (w1.setCell ⟨b, 4, none⟩ (.slice (some ⟨g, 0, none⟩) (m + 1) cap)) ∧ (v.ownBlock = some g ∨ w.heap.size ≤ g) := fun g cap w1 ho hg hat => by
    obtain ⟨p1, _, _, kk⟩ := hstep w1 hg
    have hz : ((w.alloc (.cells #[.int .i64 k, .string x, .int .i64 (ln : Nat), .int .i64 (cl : Nat), .int .i64 (p : Nat)] 38)).drew).heap.size = w.heap.size + 1 := by rw [hT]; exact hTz
    have hgb : g ≠ b := by
      rintro rfl
      rcases hat with e | e
      · exact h.ne e
      · omega
    have hk3 : Keeps (fun k => k = b) w1 (w1.setCell ⟨b, 4, none⟩ (.slice (some ⟨g, 0, none⟩) (m + 1) cap)) := Keeps.setCell _ _ _ rfl
    refine ⟨⟨h.le, cell_modify p1 4 _, owns_obj ho hk3 (fun g' hg' e => ?_), by simp [Value.ownBlock]; exact hgb, h.ps, h.lp, h.cp⟩, (kk.mono (fun _ _ e => .inr e)).trans hk3 (fun _ _ e => .inl e), hat.imp id (fun e => by omega)⟩
    have : g = g' := by simpa [Value.ownBlock] using hg'
    omega
  have Htail := Lib.hid htail
  clear htail
  have HownX := Lib.hid rowT
  have Hnews := Lib.hid hnews
  have Hstep := Lib.hid hstep
  clear h rowT hnews hstep hT hT1 hTk hTz
  go_enter Tryz.func44, Tryz.ntmps44
  go_wp2
  go_region_law (refine step_append_lies _ rfl (.tmp 12) (.tmp 28) 24 rfl B 38 i0 (.agg #[.int .i64 0, .string ⟨#[]⟩, .int .i64 0, .int .i64 0, .int .i64 0]) 5 48 Tryz.underlying24 hi hz0 hz1 hz2 rfl (by decide) v m xs (by simp [Act.eval, Act.put]) HownX.out ⟨w.heap.size, 0, none⟩ 1 1 (tokC k x ln cl p) (by simp [Act.eval, Act.put]) rfl Hnews.out (by intro u hu; unfold tokC at hu; simp at hu; rcases hu with rfl | rfl | rfl | rfl | rfl <;> rfl) (by decide) (by unfold maxLen; omega) (by omega) (by simp; omega) _ rfl ?_; intro g cap w1 hown1 hgrow1 hat hlt1; obtain ⟨p1, fz1, kp1, hb1⟩ := Hstep.out w1 hgrow1; have Ht := Lib.hid (Htail.out g cap w1 hown1 hgrow1 hat); clear hown1 hgrow1 hat)
  all_goals
    clear p1 fz1 kp1 hb1 hlt1 HownX Hnews Hstep Htail c0 c1 c2 c3 c4 f4 hi hz0 hz1 hz2
    obtain ⟨hS2, hK2, hg2⟩ := Ht.out
    have cK := skip_any hS2 hs n hn
    have HK2 := Lib.hid hK2
    have Hg2 := Lib.hid hg2
    clear Ht hS2 hK2 hg2
    generalize w1.setCell ⟨b, 4, none⟩ (.slice (some ⟨g, 0, none⟩) (m + 1) cap) = w2 at cK HK2 ⊢
    go_wp2_with fail
    refine cK.mono ?_
    rintro e w' ⟨rfl, hS3, hK3⟩
    go_wp2_with fail
    go_end0
    refine ⟨rfl, _, hS3, HK2.out.trans hK3 (fun _ _ e => .inl e), fun g' hg' => ?_⟩
    have : g = g' := by simpa [Value.ownBlock] using hg'
    subst this
    exact Hg2.out
end Go.Proofs.YtekoeobfddfgpaaGreatDoor.C
