/-
  glossarylaw05.ended: how many ends of lines.
-/
import Derived.Test.YtekoeobfddfgpaaDoorE0
import Derived.Test.YtekoeobfddfgpaaDoorSS
set_option linter.unusedVariables false
set_option linter.unusedSimpArgs false
namespace Go.Proofs.YtekoeobfddfgpaaDoor.C
open Go Go.RowKit Go.Shelf Go.Proofs.YtekoeobfddfgpaaDoor.M Go.Proofs.YtekoeobfddfgpaaDoor.Z

theorem count_snoc {l : List UInt8} {k : Nat} (h : k < l.length) : (l.take (k + 1)).count 10 = (l.take k).count 10 + (if l[k] = 10 then 1 else 0) := by
  rw [List.take_succ_eq_append_getElem h, List.count_append]
  congr 1
  by_cases e : l[k] = 10
  · simp [e]
  · rw [if_neg e, List.count_eq_zero]; simp [Ne.symm e]
set_option maxHeartbeats 4000000 in
set_option maxRecDepth 100000 in
theorem ended_any (s : ByteArray) (w : World) (hs : s.size ≤ 140737488351232) :
    Calls Tryd.prog 9 #[.string s] w fun e w' => e = .returned (.int .i64 ((bl s).count 10 : Nat)) ∧ w' = w := by
  have hl := bl_len s
  have hcl : ∀ k, ((bl s).take k).count 10 ≤ k := fun k => Nat.le_trans List.count_le_length (by rw [List.length_take]; omega)
  obtain ⟨C, hC⟩ : ∃ C : Nat → Nat, ∀ k, C k = ((bl s).take k).count 10 := ⟨fun k => ((bl s).take k).count 10, fun _ => rfl⟩
  have hCl : ∀ k, C k ≤ k := fun k => by rw [hC]; exact hcl k
  have hCs : ∀ k (h : k < s.size), C (k + 1) = C k + (if s[k]'h = 10 then 1 else 0) := by
    intro k h
    rw [hC, hC, count_snoc (by omega), bl_get h]
  have hC0 : C 0 = 0 := by rw [hC]; rfl
  have hCe : C s.size = (bl s).count 10 := by rw [hC, List.take_of_length_le (by omega)]
  rw [← hCe]
  have HC0 := Lib.hid hC0
  clear hCe hC hcl hl hC0
  go_enter Tryd.func9, Tryd.ntmps9
  go_wp2
  go_loopw [3, 4] (fun nv iv wr => ∃ k : Nat, nv = .int .i64 (C k : Nat) ∧ iv = .int .i64 k ∧ k ≤ s.size ∧ wr = w) (fun _ v _ => s.size - (intOf v).toNat)
  case atStart => exact ⟨0, by rw [HC0.out]; rfl, rfl, Nat.zero_le _, rfl⟩
  case round =>
    obtain ⟨k, rfl, rfl, hk, rfl⟩ := hrel
    have hck := hCl k
    by_cases hlt : k < s.size
    · have hst := hCs k hlt
      by_cases hc : (s[k]'hlt) = 10
      · have t1 : ((((s[k]'hlt).toNat : Nat) : Int) == 10) = true := by rw [hc]; rfl
        have HS : Hid (C (k + 1) = C k + 1) := by show _ = _; rw [hst, if_pos hc]
        clear hst hc
        go_wp2
        go_roundw
        case rel => exact ⟨k + 1, by rw [HS.out]; go_num, by go_num, hlt, trivial⟩
        case measure => simp [intOf]; omega
      · have t1 : ((((s[k]'hlt).toNat : Nat) : Int) == 10) = false := u8_neI hc
        have HS : Hid (C (k + 1) = C k) := by show _ = _; rw [hst, if_neg hc]; rfl
        clear hst hc
        go_wp2
        go_roundw
        case rel => exact ⟨k + 1, by rw [HS.out], by go_num, hlt, trivial⟩
        case measure => simp [intOf]; omega
    · obtain rfl : k = s.size := by omega
      go_wp2
      go_ret
      exact ⟨rfl, rfl⟩
theorem Toks.below {W W' : World} {B : Nat} {v : Value} {l : List UInt8} {xs : List (Nat × List UInt8 × List UInt8)} {g cap : Nat} (h : Toks W B v l xs g cap) (hb : Below W.heap.size W W') : Toks W' B v l xs g cap :=
  ⟨h.v, h.ge, Nat.lt_of_lt_of_le h.lt hb.size, h.len, fun j y hj => (hb.cell (p := ⟨g, j * 5, none⟩) h.lt).trans (h.c0 j y hj), fun j y hj => (hb.cell (p := ⟨g, j * 5 + 1, none⟩) h.lt).trans (h.c1 j y hj), fun j y hj => (hb.cell (p := ⟨g, j * 5 + 2, none⟩) h.lt).trans (h.c2 j y hj), fun j y hj => (hb.cell (p := ⟨g, j * 5 + 3, none⟩) h.lt).trans (h.c3 j y hj), fun j y hj => (hb.cell (p := ⟨g, j * 5 + 4, none⟩) h.lt).trans (h.c4 j y hj)⟩
/-- what the laws of the seat lean on: two tables, and the word of package errors -/
def Laid (w : World) : Prop := Lib.Utf8Tabs 1 2 w ∧ w.cell? ⟨3, 0, none⟩ = some (.iface 116 (.agg #[.pointer (some ⟨4, 24, none⟩)]))
theorem Laid.below {w w' : World} (h : Laid w) (hb : Below w.heap.size w w') : Laid w' :=
  ⟨tabs_below h.1 hb (Nat.le_refl _), (hb.cell (p := ⟨3, 0, none⟩) (cell_blk h.2)).trans h.2⟩
end Go.Proofs.YtekoeobfddfgpaaDoor.C
