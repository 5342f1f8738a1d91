/-
  glossaryref01's Encode and Text, in plain words.
-/
import Derived.Test.YtbkimhbpcmbflaaDoorQ3
set_option linter.unusedVariables false
set_option linter.unusedSimpArgs false
namespace Go.Proofs.YtbkimhbpcmbflaaDoor.C
open Go Go.RowKit Go.Shelf Go.Proofs.YtbkimhbpcmbflaaDoor.M Go.Proofs.YtbkimhbpcmbflaaDoor.PAll Go.Proofs.YtbkimhbpcmbflaaDoorW.PrintWords

/-! ### Encode and Text of glossaryref01 -/
/-- a number's bytes, as Go's own conversions make them -/
def eb (x : Int) : List UInt8 := (Utf8.encode x).data.toList
theorem eb_ok {c : Nat} (h : okc c) : eb (c : Int) = enc c := rfl
theorem eb_bad {x : Int} (h : Lib.validRune x = false) : eb x = eb 65533 := by
  have e : Utf8.valid x = false := by
    unfold Lib.validRune at h; unfold Utf8.valid; simp at h ⊢; omega
  unfold eb Utf8.encode
  simp only [e, Bool.false_eq_true, if_false]
  decide
theorem eb_len (x : Int) : (eb x).length ≤ 4 := by
  by_cases hv : Lib.validRune x = true
  · have := pb_len x
    unfold pb at this
    rw [if_pos hv] at this
    exact this
  · rw [eb_bad (by simpa using hv)]
    decide
theorem enc01_j0 (k c : Nat) (hc : okc c) : glossaryref01_Encode.j0 (k + 1) (c : Int) = some ⟨(eb (c : Int)).toArray⟩ := by
  rw [eb_ok hc, enc_eq hc, ← str_nums8]
  have hm : c ≤ 1114111 := by have : c < 55296 ∨ (57344 ≤ c ∧ c ≤ 1114111) := hc; omega
  clear hc
  simp only [glossaryref01_Encode.j0]
  by_cases h1 : c < 128
  · have g1 : (c : Int) < 128 := by omega
    rw [if_pos g1, if_pos h1]
    have e1 : (c : Int) % 256 = c := by omega
    simp only [nums8, List.map_cons, List.map_nil, u8n (show c < 256 by omega), e1]
  · have g1 : ¬ (c : Int) < 128 := by omega
    rw [if_neg g1, if_neg h1]
    by_cases h2 : c < 2048
    · have g2 : (c : Int) < 2048 := by omega
      rw [if_pos g2, if_pos h2]
      simp only [nums8, List.map_cons, List.map_nil, u8n (show 192 + c / 64 < 256 by omega), u8n (show 128 + c % 64 < 256 by omega)]
      rw [Int.tdiv_eq_ediv_of_nonneg (by omega), Int.tmod_eq_emod_of_nonneg (by omega), w32 (x := (c : Int) / 64) (by omega) (by omega), w32 (by omega) (by omega), w32 (by omega) (by omega)]
      have e1 : (192 + (c : Int) / 64) % 256 = ((192 + c / 64 : Nat) : Int) := by omega
      have e2 : (128 + (c : Int) % 64) % 256 = ((128 + c % 64 : Nat) : Int) := by omega
      rw [e1, e2]
    · have g2 : ¬ (c : Int) < 2048 := by omega
      rw [if_neg g2, if_neg h2]
      by_cases h3 : c < 65536
      · have g3 : (c : Int) < 65536 := by omega
        rw [if_pos g3, if_pos h3]
        simp only [nums8, List.map_cons, List.map_nil, u8n (show 224 + c / 4096 < 256 by omega), u8n (show 128 + c / 64 % 64 < 256 by omega), u8n (show 128 + c % 64 < 256 by omega)]
        rw [Int.tdiv_eq_ediv_of_nonneg (by omega), Int.tdiv_eq_ediv_of_nonneg (by omega), w32 (x := (c : Int) / 64) (by omega) (by omega), Int.tmod_eq_emod_of_nonneg (by omega), Int.tmod_eq_emod_of_nonneg (by omega), w32 (x := (c : Int) / 4096) (by omega) (by omega), w32 (by omega) (by omega), w32 (by omega) (by omega), w32 (by omega) (by omega)]
        have e1 : (224 + (c : Int) / 4096) % 256 = ((224 + c / 4096 : Nat) : Int) := by omega
        have e2 : (128 + (c : Int) / 64 % 64) % 256 = ((128 + c / 64 % 64 : Nat) : Int) := by omega
        have e3 : (128 + (c : Int) % 64) % 256 = ((128 + c % 64 : Nat) : Int) := by omega
        rw [e1, e2, e3]
      · have g3 : ¬ (c : Int) < 65536 := by omega
        rw [if_neg g3, if_neg h3]
        simp only [nums8, List.map_cons, List.map_nil, u8n (show 240 + c / 262144 < 256 by omega), u8n (show 128 + c / 4096 % 64 < 256 by omega), u8n (show 128 + c / 64 % 64 < 256 by omega), u8n (show 128 + c % 64 < 256 by omega)]
        rw [Int.tdiv_eq_ediv_of_nonneg (by omega), Int.tdiv_eq_ediv_of_nonneg (by omega), Int.tdiv_eq_ediv_of_nonneg (by omega), w32 (x := (c : Int) / 64) (by omega) (by omega), w32 (x := (c : Int) / 4096) (by omega) (by omega), w32 (x := (c : Int) / 262144) (by omega) (by omega), Int.tmod_eq_emod_of_nonneg (by omega), Int.tmod_eq_emod_of_nonneg (by omega), Int.tmod_eq_emod_of_nonneg (by omega), w32 (by omega) (by omega), w32 (by omega) (by omega), w32 (by omega) (by omega), w32 (by omega) (by omega)]
        have e1 : (240 + (c : Int) / 262144) % 256 = ((240 + c / 262144 : Nat) : Int) := by omega
        have e2 : (128 + (c : Int) / 4096 % 64) % 256 = ((128 + c / 4096 % 64 : Nat) : Int) := by omega
        have e3 : (128 + (c : Int) / 64 % 64) % 256 = ((128 + c / 64 % 64 : Nat) : Int) := by omega
        have e4 : (128 + (c : Int) % 64) % 256 = ((128 + c % 64 : Nat) : Int) := by omega
        rw [e1, e2, e3, e4]
theorem char01 (x : Int) : glossaryref01_Character.f x = some (Lib.validRune x) := by
  unfold glossaryref01_Character.f Lib.validRune
  by_cases h0 : x ≥ 0
  · rw [if_pos h0]
    by_cases h1 : x ≤ 1114111
    · rw [if_pos h1]
      by_cases h2 : x < 55296
      · rw [if_pos h2]; congr 1; symm; simp; omega
      · rw [if_neg h2]; congr 1; rw [decide_eq_decide]; omega
    · rw [if_neg h1]; congr 1; symm; simp; omega
  · rw [if_neg h0]; congr 1; symm; simp; omega
theorem enc01_ref (k : Nat) (x : Int) : glossaryref01_Encode.f (k + 1) x = some ⟨(eb x).toArray⟩ := by
  unfold glossaryref01_Encode.f
  rw [char01, Option.bind_some]
  by_cases hv : Lib.validRune x = true
  · rw [if_pos hv]
    have hx : 0 ≤ x ∧ (x < 55296 ∨ (57344 ≤ x ∧ x ≤ 1114111)) := by unfold Lib.validRune at hv; simp at hv; omega
    obtain ⟨c, rfl⟩ : ∃ c : Nat, x = c := ⟨x.toNat, by omega⟩
    exact enc01_j0 k c (by show c < 55296 ∨ (57344 ≤ c ∧ c ≤ 1114111); omega)
  · rw [if_neg hv, eb_bad (by simpa using hv)]
    exact enc01_j0 k 65533 (by show (65533 : Nat) < 55296 ∨ ((57344 : Nat) ≤ 65533 ∧ (65533 : Nat) ≤ 1114111); omega)
/-- the bytes of all the numbers -/
def textE (xs : List Int) : List UInt8 := xs.flatMap eb
theorem textE_snoc (a : List Int) (x : Int) : textE (a ++ [x]) = textE a ++ eb x := by simp [textE]
theorem textE_len (xs : List Int) : (textE xs).length ≤ 4 * xs.length := by
  induction xs with
  | nil => simp [textE]
  | cons x t ih =>
    have := eb_len x
    have e : textE (x :: t) = eb x ++ textE t := rfl
    rw [e, List.length_append, List.length_cons]; omega
theorem bytesOf_mk (l : List UInt8) : bytesOf ⟨l.toArray⟩ = nums8 l := rfl
theorem text01_l0 (xs : List Int) (hl : xs.length ≤ 35184372087808) : ∀ m i : Nat, i + m = xs.length → glossaryref01_Text.l0 (m + 2) xs (nums8 (textE (xs.take i))) i = some ⟨(textE xs).toArray⟩
  | 0, i, h => by
    unfold glossaryref01_Text.l0
    rw [if_neg (by omega), List.take_of_length_le (by omega), str_nums8]
  | m + 1, i, h => by
    have hlt : i < xs.length := by omega
    have hi : xs[i]? = some xs[i] := List.getElem?_eq_getElem hlt
    have h4 := textE_len (xs.take i)
    have h5 : (xs.take i).length ≤ i := List.length_take_le _ _
    have h6 := eb_len xs[i]
    unfold glossaryref01_Text.l0
    have hs : (⟨(eb xs[i]).toArray⟩ : ByteArray).size = (eb xs[i]).length := by simp [ByteArray.size]
    rw [if_pos (by omega), if_pos (by omega), rd_some hi, enc01_ref, Option.bind_some, hs, nums8_len, if_pos (by omega), bytesOf_mk, ← nums8_append, ← textE_snoc, wi i (by omega)]
    have e : xs.take (i + 1) = xs.take i ++ [xs[i]] := by rw [List.take_add_one, hi]; rfl
    rw [← e]
    exact text01_l0 xs hl m (i + 1) (by omega)
theorem text01_ref (xs : List Int) (hl : xs.length ≤ 35184372087808) : ∃ k, glossaryref01_Text.f k xs = some ⟨(textE xs).toArray⟩ := by
  refine ⟨xs.length + 2, ?_⟩
  unfold glossaryref01_Text.f
  exact text01_l0 xs hl xs.length 0 (by omega)
end Go.Proofs.YtbkimhbpcmbflaaDoor.C
