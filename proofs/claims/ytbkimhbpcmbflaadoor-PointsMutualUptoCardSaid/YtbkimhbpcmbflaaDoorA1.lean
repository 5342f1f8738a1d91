/-
  Contracts of leaf functions of utf and points, and of what the library gives them.
-/
import Derived.Test.YtbkimhbpcmbflaaDoorShelf
import Derived.Test.YtbkimhbpcmbflaaDoorMath1
import Derived.WalkKit
import Derived.WalkSpells
import Derived.WalkLawsBesides
import Derived.BigCall
import Derived.Lib.Hide
import Derived.Lib.IndexBytes
set_option linter.unusedVariables false
set_option linter.unusedSimpArgs false
namespace Go.Proofs.YtbkimhbpcmbflaaDoor.C
open Go Go.RowKit Go.Proofs.YtbkimhbpcmbflaaDoor.M

abbrev bl (s : ByteArray) : List UInt8 := s.data.toList
theorem bl_len (s : ByteArray) : (bl s).length = s.size := (Lib.size_eq s).symm
theorem bl_extract (s : ByteArray) (p : Nat) : bl (s.extract p s.size) = (bl s).drop p := Lib.extract_to_end s p
theorem bl_nonempty {s : ByteArray} {p : Nat} (h : p < s.size) : (bl s).drop p ≠ [] := ne_nil_of_lt (by rw [bl_len]; exact h)
theorem decodeGo_eq {s : ByteArray} {p : Nat} (h : p < s.size) : Lib.decodeGo (s.extract p s.size) = (dc ((bl s).drop p), dw ((bl s).drop p)) := by
  unfold Lib.decodeGo
  have hz : (s.extract p s.size).size = s.size - p := by simp
  rw [if_neg (by omega)]
  have := Lib.decodeL_drop (s.extract p s.size) 0
  rw [← this]
  show Lib.decodeL (List.drop 0 (bl (s.extract p s.size))) = _
  rw [bl_extract]
  rfl
theorem byte_at {s : ByteArray} {p : Nat} (h : p < s.size) : (s[p]'h).toNat = b0 ((bl s).drop p) := by
  unfold b0 bl
  simp only [List.getD_eq_getElem?_getD, List.getElem?_drop, Nat.add_zero]
  have hp : p < s.data.toList.length := by have := Lib.size_eq s; omega
  rw [List.getElem?_eq_getElem hp]
  rfl

/-- unicode/utf8.DecodeRuneInString behind a cut. -/
theorem decode_rest (s : ByteArray) (p : Nat) (w : World) (hT : Lib.Utf8Tabs 0 1 w) (h : p < s.size) :
    Calls Tryd.prog 96 #[.string (s.extract p s.size)] w fun e w' => e = .returned (.tuple #[.int .i32 (dc ((bl s).drop p) : Nat), .int .i64 (dw ((bl s).drop p) : Nat)]) ∧ Below w.heap.size w w' := by
  have := Tryd.utf8_DecodeRuneInString (s.extract p s.size) w hT
  rw [decodeGo_eq h] at this
  exact this

/-- what points.Next answers -/
def nextP (l : List UInt8) (at_ : Int) : Int × Int := if at_ < 0 ∨ (l.length : Int) ≤ at_ then (0, 0) else ((pt (l.drop at_.toNat) : Nat), (dw (l.drop at_.toNat) : Nat))

set_option maxHeartbeats 1000000 in
theorem next_in (s : ByteArray) (p : Nat) (w : World) (hT : Lib.Utf8Tabs 0 1 w) (h : p < s.size) (hs : s.size ≤ 140737488351232) :
    Calls Tryd.prog 49 #[.string s, .int .i64 (p : Nat)] w fun e w' => e = .returned (.tuple #[.int .i32 (pt ((bl s).drop p) : Nat), .int .i64 (dw ((bl s).drop p) : Nat)]) ∧ Below w.heap.size w w' := by
  have hne := bl_nonempty h
  have hf := d_facts hne
  have hb := byte_at h
  have h1 : (p : Int) < s.size := by omega
  have cD := decode_rest s p
  cases hi : ill ((bl s).drop p) with
  | true =>
    have e : dc ((bl s).drop p) = 65533 ∧ dw ((bl s).drop p) = 1 := by simpa [ill] using hi
    have hb2 := ill_b0 hne hi
    have hp : pt ((bl s).drop p) = 1114112 + b0 ((bl s).drop p) := by simp [pt, hi]
    rw [hp, e.2]
    rw [e.1, e.2] at cD
    rw [← hb] at hb2 ⊢
    clear e hp hi hb hf hne
    go_enter Tryd.func49, Tryd.ntmps49
    go_wp2_with (go_at_call 96; refine (cD _ hT h).mono ?_; rintro e w' ⟨rfl, hb⟩)
    go_ret2
    exact ⟨rfl, hb⟩
  | false =>
    have hd : ¬ (dc ((bl s).drop p) = 65533 ∧ dw ((bl s).drop p) = 1) := by simpa [ill] using hi
    have hp : pt ((bl s).drop p) = dc ((bl s).drop p) := by simp [pt, hi]
    rw [hp]
    generalize dc ((bl s).drop p) = c at *
    generalize dw ((bl s).drop p) = k at *
    clear hp hi hb hne
    by_cases h2 : c = 65533
    · have h3 : ((k : Int) == 1) = false := beq_eq_false_iff_ne.2 (by omega)
      have h4 : ((c : Int) == 65533) = true := beq_iff_eq.2 (by omega)
      clear hf hd h2
      go_enter Tryd.func49, Tryd.ntmps49
      go_wp2_with (go_at_call 96; refine (cD _ hT h).mono ?_; rintro e w' ⟨rfl, hb⟩)
      go_ret2
      exact ⟨rfl, hb⟩
    · have h4 : ((c : Int) == 65533) = false := beq_eq_false_iff_ne.2 (by omega)
      clear hf hd h2
      go_enter Tryd.func49, Tryd.ntmps49
      go_wp2_with (go_at_call 96; refine (cD _ hT h).mono ?_; rintro e w' ⟨rfl, hb⟩)
      go_ret2
      exact ⟨rfl, hb⟩
set_option maxHeartbeats 1000000 in
theorem next_out (s : ByteArray) (a : Int) (w : World) (h : a < 0 ∨ (s.size : Int) ≤ a) :
    Calls Tryd.prog 49 #[.string s, .int .i64 a] w fun e w' => e = .returned (.tuple #[.int .i32 0, .int .i64 0]) ∧ Below w.heap.size w w' := by
  by_cases h1 : a < 0
  · go_enter Tryd.func49, Tryd.ntmps49
    go_wp2
    go_ret2
    exact ⟨rfl, Below.refl _ _⟩
  · have h2 : (s.size : Int) ≤ a := by omega
    go_enter Tryd.func49, Tryd.ntmps49
    go_wp2
    go_ret2
    exact ⟨rfl, Below.refl _ _⟩
theorem next_any (s : ByteArray) (a : Int) (w : World) (hT : Lib.Utf8Tabs 0 1 w) (hs : s.size ≤ 140737488351232) :
    Calls Tryd.prog 49 #[.string s, .int .i64 a] w fun e w' => e = .returned (.tuple #[.int .i32 (nextP (bl s) a).1, .int .i64 (nextP (bl s) a).2]) ∧ Below w.heap.size w w' := by
  unfold nextP
  rw [bl_len]
  by_cases h : a < 0 ∨ (s.size : Int) ≤ a
  · rw [if_pos h]
    exact next_out s a w h
  · rw [if_neg h]
    obtain ⟨p, rfl⟩ : ∃ p : Nat, a = p := ⟨a.toNat, by omega⟩
    exact next_in s p w hT (by omega) hs

/-! ### utf -/
def decU (l : List UInt8) (a : Int) : Int × Int := if a < 0 ∨ (l.length : Int) ≤ a then (65533, 0) else ((dc (l.drop a.toNat) : Nat), (dw (l.drop a.toNat) : Nat))
set_option maxHeartbeats 1000000 in
theorem decode_any (s : ByteArray) (a : Int) (w : World) (hT : Lib.Utf8Tabs 0 1 w) (hs : s.size ≤ 140737488351232) :
    Calls Tryd.prog 71 #[.string s, .int .i64 a] w fun e w' => e = .returned (.tuple #[.int .i32 (decU (bl s) a).1, .int .i64 (decU (bl s) a).2]) ∧ Below w.heap.size w w' := by
  unfold decU
  rw [bl_len]
  by_cases h : a < 0 ∨ (s.size : Int) ≤ a
  · rw [if_pos h]
    by_cases h1 : a < 0
    · go_enter Tryd.func71, Tryd.ntmps71
      go_wp2
      go_ret2
      exact ⟨rfl, Below.refl _ _⟩
    · have h2 : (s.size : Int) ≤ a := by omega
      go_enter Tryd.func71, Tryd.ntmps71
      go_wp2
      go_ret2
      exact ⟨rfl, Below.refl _ _⟩
  · rw [if_neg h]
    obtain ⟨p, rfl⟩ : ∃ p : Nat, a = p := ⟨a.toNat, by omega⟩
    have hp : p < s.size := by omega
    have cD := decode_rest s p
    rw [Int.toNat_natCast]
    generalize dc ((bl s).drop p) = c at *
    generalize dw ((bl s).drop p) = k at *
    clear h
    have h1 : (p : Int) < s.size := by omega
    go_enter Tryd.func71, Tryd.ntmps71
    go_wp2_with (go_at_call 96; refine (cD _ hT hp).mono ?_; rintro e w' ⟨rfl, hb⟩)
    go_ret2
    exact ⟨rfl, hb⟩
end Go.Proofs.YtbkimhbpcmbflaaDoor.C
