/-
  Of this seat's texts what the claim wants (printed by a program): D1.
-/
import Derived.Test.YtekoeobfddfgpaaGreatDoorRD0
import Derived.Test.YtekoeobfddfgpaaGreatDoorRSS
import Derived.Deep.AppendLies
set_option linter.unusedVariables false
set_option linter.unusedSimpArgs false
namespace Go.Proofs.YtekoeobfddfgpaaGreatDoor.C
open Go Go.RowKit Go.Shelf Go.Proofs.YtekoeobfddfgpaaGreatDoor.M Go.Proofs.YtekoeobfddfgpaaGreatDoor.Z
theorem Bd.keeps {w w' : World} {B b : Nat} {p v : Value} {bs : List UInt8} {Y : Nat → Prop} (h : Bd w B b p v bs) (hk : Keeps Y w w') (hb : ¬ Y b) (hv : ∀ g, v.ownBlock = some g → ¬ Y g) : Bd w' B b p v bs :=
  ⟨h.le, hk.obj h.blk hb, h.p, owns_obj h.row hk hv, h.ne⟩
def ba (l : List UInt8) : ByteArray := ⟨l.toArray⟩
theorem bl_ba (l : List UInt8) : bl (ba l) = l := by simp [ba, bl]
theorem ba_bl (s : ByteArray) : ba (bl s) = s := by cases s; simp [ba, bl]
theorem ba_size (l : List UInt8) : (ba l).size = l.length := by rw [← bl_len, bl_ba]
set_option maxHeartbeats 1000000 in
set_option maxRecDepth 100000 in
theorem writebyte_any {w : World} {B b : Nat} {p v : Value} {bs : List UInt8} (h : Bd w B b p v bs) (c : UInt8) (hlen : bs.length + 1 ≤ 140737488355328) (hB : B ≤ w.heap.size) :
    Calls Tryz.prog 106 #[.pointer (some ⟨b, 0, none⟩), .int .u8 (c.toNat : Nat)] w fun e w' => e = .returned .nilIface ∧
      ∃ v', Bd w' B b (.pointer (some ⟨b, 0, none⟩)) v' (bs ++ [c]) ∧ Keeps (fun k => k = b ∨ v.ownBlock = some k) w w' ∧ ∀ g, v'.ownBlock = some g → v.ownBlock = some g ∨ w.heap.size ≤ g := by
  obtain ⟨i0, hi, hz0, hz1, hz2⟩ := info_parts Tryz.infoByte
  have cC := copycheck_any h
  go_enter Tryz.func106, Tryz.ntmps106
  go_wp2_with fail
  refine cC.mono ?_
  rintro e w1 ⟨rfl, h1, hk1⟩
  have c1 : w1.cell? ⟨b, 1, none⟩ = some v := cell_of_row _ _ _ _ _ _ h1.blk
  have c1' := fun o => cell_alloc_l o c1
  have hs1 := hk1.size
  have q1 := cell_new_l w1 (.int .u8 (c.toNat : Nat)) 5
  have kA : Keeps none' w1 (w1.alloc (.cells #[.int .u8 (c.toNat : Nat)] 5)) := Keeps.alloc _ _ _
  have rowA : (w1.alloc (.cells #[.int .u8 (c.toNat : Nat)] 5)).ownsRow B 5 1 v bs.length (bcells bs) := owns_obj h1.row kA (fun _ _ h => h)
  go_wp2_with (at_builtin; refine wpList_append_lies _ rfl _ _ 61 rfl B 5 i0 (.int .u8 0) 1 1 Tryz.underlying61 hi hz0 hz1 hz2 rfl (by decide) v bs.length (bcells bs) rfl rowA ⟨w1.heap.size, 0, none⟩ 1 1 [.int .u8 (c.toNat : Nat)] rfl rfl ?c1 ?c2 (by decide) (by unfold maxLen; omega) (by omega) (by simp; omega) (w1.heap.size + 1) (by simp) ?_)
  case c1 =>
    intro j u hj
    cases j with
    | zero => injection hj with hj; rw [← hj]; exact q1.1
    | succ j => simp at hj
  case c2 =>
    intro u hu
    rw [List.mem_singleton.1 hu]; rfl
  intro g cap w2 hown' hgrow hlies hg2
  have hb1 : b < w1.heap.size := lt_of_obj h1.blk
  have hbA : b < (w1.alloc (.cells #[.int .u8 (c.toNat : Nat)] 5)).heap.size := by simp; omega
  have hb2 : w2.heap[b]? = some (.cells #[.pointer (some ⟨b, 0, none⟩), v] 90 (0, 0)) := (hgrow.block b hbA (fun e => h1.ne e.symm)).trans (kA.obj h1.blk (fun h => h))
  have d1 : w2.cell? ⟨b, 1, none⟩ = some v := cell_of_row _ _ _ _ _ _ hb2
  have f1 : w2.frozen? ⟨b, 1, none⟩ = false := frozen_cells hb2 1
  have hne' : g ≠ b := by
    rintro rfl
    rcases hlies with e | e
    · exact h1.ne e
    · omega
  have hown2 : w2.ownsRow B 5 1 (.slice (some ⟨g, 0, none⟩) (bs.length + 1) cap) (bs ++ [c]).length (bcells (bs ++ [c])) := by
    rw [List.length_append, bcells_append]; exact hown'
  have hsz2 := hgrow.size
  have hk3 : Keeps (fun k => k = b) w2 (w2.setCell ⟨b, 1, none⟩ (.slice (some ⟨g, 0, none⟩) (bs.length + 1) cap)) := Keeps.setCell _ _ _ rfl
  have hres : Bd (w2.setCell ⟨b, 1, none⟩ (.slice (some ⟨g, 0, none⟩) (bs.length + 1) cap)) B b (.pointer (some ⟨b, 0, none⟩)) (.slice (some ⟨g, 0, none⟩) (bs.length + 1) cap) (bs ++ [c]) ∧ Keeps (fun k => k = b ∨ v.ownBlock = some k) w (w2.setCell ⟨b, 1, none⟩ (.slice (some ⟨g, 0, none⟩) (bs.length + 1) cap)) ∧ ∀ g', (Value.slice (some ⟨g, 0, none⟩) (bs.length + 1) cap).ownBlock = some g' → v.ownBlock = some g' ∨ w.heap.size ≤ g' := by
    refine ⟨⟨h.le, cell_modify hb2 1 _, .inr rfl, owns_obj hown2 hk3 (fun g' hg e => hne' (by simp [Value.ownBlock] at hg; omega)), by simp [Value.ownBlock]; exact hne'⟩, ?_, fun g' hg => ?_⟩
    · refine (((hk1.mono (fun _ _ e => .inl e)).trans kA (fun _ _ e => e.elim)).trans (Keeps.of_grownBy (Z := fun k => v.ownBlock = some k) hgrow (fun r e => e)) (fun _ _ e => .inr e)).trans hk3 (fun _ _ e => .inl e)
    · have : g = g' := by simpa [Value.ownBlock] using hg
      subst this
      rcases hlies with e | e
      · exact .inl e
      · right; omega
  have Hr := Lib.hid hres
  clear hres hown' hown2 hlies hne' hgrow h1 hk1 cC hk3 rowA kA q1 c1' hb1 hbA
  go_wp2
  go_ret
  exact ⟨rfl, _, Hr.out⟩
theorem bstr_any {w : World} {B b : Nat} {p v : Value} {bs : List UInt8} (h : Bd w B b p v bs) (hB : B ≤ w.heap.size) :
    Calls Tryz.prog 59 #[.pointer (some ⟨b, 0, none⟩)] w fun e w' => e = .returned (.string (ba bs)) ∧ Below B w w' := by
  have row : w.ownsRow B 5 1 v (Lib.byteCells bs).length (Lib.byteCells bs) := by
    have := h.row
    rw [show (Lib.byteCells bs).length = bs.length by simp [Lib.byteCells]]
    exact this
  have hb : Lib.IsBuilderF 90 5 B b (Lib.byteCells bs) w := by
    rcases h.p with rfl | rfl
    · exact .inl (Lib.BuilderAtF.of ⟨h.le, v, h.blk, row, h.ne⟩)
    · exact .inr (Lib.BuilderAtF.of ⟨h.le, v, h.blk, row, h.ne⟩)
  exact (Tryz.Builder_String_any_k B b bs w hb hB).mono fun e w' ⟨h1, _, h3, _⟩ => ⟨h1, h3⟩
theorem Bd.new (w : World) : Bd (w.alloc (.cells #[.pointer none, .slice none 0 0] 90)) w.heap.size w.heap.size (.pointer none) (.slice none 0 0) [] :=
  ⟨Nat.le_refl _, heap_alloc_new w _, .inl rfl, ⟨rfl, .inl ⟨rfl, rfl⟩⟩, by simp [Value.ownBlock]⟩
theorem quo_drop_end {l : List UInt8} {n : Nat} (h : l.length ≤ n) : quo (l.drop n) = none := by rw [List.drop_eq_nil_of_le h]; rfl
theorem quo_close {r : List UInt8} (h : ∀ d r', r = d :: r' → d ≠ 39) : quo (39 :: r) = some ([], 1) := by
  cases r with
  | nil => simp [quo]
  | cons d r => simp [quo, h d r rfl]
theorem quo_two (r : List UInt8) : quo (39 :: 39 :: r) = (quo r).map fun x => (39 :: x.1, x.2 + 2) := by simp [quo]
theorem quo_other {c : UInt8} (hc : c ≠ 39) (r : List UInt8) : quo (c :: r) = (quo r).map fun x => (c :: x.1, x.2 + 1) := by
  cases r with
  | nil => simp [quo, hc]
  | cons d r => simp [quo, hc]
theorem drop_at {l : List UInt8} {n : Nat} (h : n < l.length) : l.drop n = l[n] :: l.drop (n + 1) := (List.getElem_cons_drop ..).symm
theorem bl_get {s : ByteArray} {n : Nat} (h : n < s.size) : (bl s)[n]'(by rw [bl_len]; exact h) = s[n] := by simp [bl]; rfl
end Go.Proofs.YtekoeobfddfgpaaGreatDoor.C
