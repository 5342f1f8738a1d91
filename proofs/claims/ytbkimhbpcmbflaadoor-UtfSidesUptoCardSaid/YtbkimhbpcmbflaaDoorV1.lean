/-
  Plain laws for UtfSides: units, texts and numbers there and back; SameRunes of any two lists.
-/
import Derived.Test.YtbkimhbpcmbflaaDoorV0
set_option linter.unusedVariables false
set_option linter.unusedSimpArgs false
namespace Go.Proofs.YtbkimhbpcmbflaaDoor.C
open Go Go.RowKit Go.Shelf Go.Proofs.YtbkimhbpcmbflaaDoor.M Go.Proofs.YtbkimhbpcmbflaaDoor.PAll Go.Proofs.YtbkimhbpcmbflaaDoorW.PrintWords

/-- a number, or what stands for none -/
def fixr (x : Int) : Int := if Lib.validRune x = true then x else 65533
theorem fixr_ok (x : Int) : Lib.validRune (fixr x) = true := by
  unfold fixr
  split
  · assumption
  · decide
theorem eb_fixr (x : Int) : eb x = pb (fixr x) := by
  unfold fixr
  split
  · next h => unfold pb; rw [if_pos h]; rfl
  · next h => rw [eb_bad (by simpa using h)]; unfold pb; rw [if_pos (by decide)]; rfl
theorem textE_fixr (xs : List Int) : textE xs = textP (xs.map fixr) := by
  unfold textE textP
  rw [List.flatMap_map]
  exact congrArg (fun f => xs.flatMap f) (funext eb_fixr)
theorem fixr_all (xs : List Int) : ∀ x ∈ xs.map fixr, Lib.validRune x = true := by
  intro x hx
  obtain ⟨y, _, rfl⟩ := List.mem_map.1 hx
  exact fixr_ok y
theorem runes_textE (xs : List Int) : runes (textE xs) = xs.map fixr := by
  rw [textE_fixr]
  exact (back_row (fixr_all xs)).2.1
theorem textE_ok (xs : List Int) : ∀ t ∈ sfx (textE xs), ill t = false := by
  rw [textE_fixr]
  obtain ⟨cs, e, hc⟩ := valid_nat (fixr_all xs)
  rw [← e, textP_enc cs hc]
  exact (sfx_flat cs hc).2
theorem fixr_same (xs : List Int) : (xs.map fixr = xs) ↔ ∀ x ∈ xs, Lib.validRune x = true := by
  constructor
  · intro h x hx
    rw [← h] at hx
    exact fixr_all xs x hx
  · intro h
    conv => rhs; rw [← List.map_id xs]
    exact List.map_congr_left fun x hx => by unfold fixr; rw [if_pos (h x hx)]; rfl
/-- is nothing ill-formed? -/
def okB (l : List UInt8) : Bool := (sfx l).all fun t => !(ill t)
theorem okB_iff (l : List UInt8) : okB l = true ↔ ∀ t ∈ sfx l, ill t = false := by
  unfold okB; simp
theorem textE_runes : ∀ n (l : List UInt8), l.length ≤ n → (∀ t ∈ sfx l, ill t = false) → textE (runes l) = l := by
  intro n
  induction n with
  | zero =>
    intro l hl _
    obtain rfl : l = [] := List.eq_nil_of_length_eq_zero (by omega)
    simp [runes, sfx_nil, textE]
  | succ n ih =>
    intro l hl h
    by_cases hne : l = []
    · subst hne; simp [runes, sfx_nil, textE]
    · have h1 := dw_pos hne
      have h2 : 0 < l.length := List.length_pos_iff.2 hne
      have hs := sfx_cons hne
      have e : runes l = (dc l : Int) :: runes (l.drop (dw l)) := by unfold runes; rw [hs]; rfl
      have e2 : textE (runes l) = eb (dc l : Nat) ++ textE (runes (l.drop (dw l))) := by rw [e]; rfl
      rw [e2, ih _ (by rw [List.length_drop]; omega) (fun t ht => h t (by rw [hs]; simp [ht])), eb_ok (okc_dc hne), ← take_enc hne (h l (by rw [hs]; simp)), List.take_append_drop]
theorem back_text (l : List UInt8) : (textE (runes l) = l) ↔ okB l = true := by
  rw [okB_iff]
  constructor
  · intro h
    rw [← h]
    exact textE_ok _
  · exact textE_runes _ l (Nat.le_refl _)
theorem validD_ok (l : List UInt8) : Lib.validD l = okB l := by
  suffices ∀ n (l : List UInt8), l.length ≤ n → Lib.validD l = okB l from this _ l (Nat.le_refl _)
  intro n
  induction n with
  | zero =>
    intro l hl
    obtain rfl : l = [] := List.eq_nil_of_length_eq_zero (by omega)
    rw [Lib.validD_nil]; unfold okB; rw [sfx_nil]; rfl
  | succ n ih =>
    intro l hl
    by_cases hne : l = []
    · subst hne; rw [Lib.validD_nil]; unfold okB; rw [sfx_nil]; rfl
    · have h1 := dw_pos hne
      have h2 : 0 < l.length := List.length_pos_iff.2 hne
      have e : okB l = (!(ill l) && okB (l.drop (dw l))) := by unfold okB; rw [sfx_cons hne]; rfl
      rw [Lib.validD_step l hne, e, ← ih _ (by rw [List.length_drop]; omega)]
      by_cases hi : dc l = 65533 ∧ dw l = 1
      · have hi2 : (Lib.decodeL l).1 = 65533 ∧ (Lib.decodeL l).2 = 1 := hi
        rw [if_pos hi2]; unfold ill; rw [decide_eq_true hi]; rfl
      · have hi2 : ¬ ((Lib.decodeL l).1 = 65533 ∧ (Lib.decodeL l).2 = 1) := hi
        rw [if_neg hi2]; unfold ill; rw [decide_eq_false hi]; rfl
theorem runeCount_from (s : ByteArray) : ∀ fuel p, s.size ≤ p + fuel → p ≤ s.size → Lib.runeCountFrom s fuel p = (sfx ((bl s).drop p)).length
  | 0, p, h, hp => by
    have : (bl s).drop p = [] := List.drop_of_length_le (by rw [bl_len]; omega)
    rw [this, sfx_nil]; rfl
  | fuel + 1, p, h, hp => by
    unfold Lib.runeCountFrom
    by_cases hlt : p < s.size
    · have hne := bl_nonempty hlt
      have hd : Utf8.decode s p = (dc ((bl s).drop p), dw ((bl s).drop p)) := (Lib.decodeL_drop s p).symm
      have h1 := dw_pos hne
      have h2 := dw_len hne
      rw [List.length_drop, bl_len] at h2
      rw [if_pos hlt, hd, sfx_cons hne, List.length_cons, List.drop_drop]
      show 1 + Lib.runeCountFrom s fuel (p + dw ((bl s).drop p)) = _
      rw [runeCount_from s fuel _ (by omega) (by omega)]
      omega
    · have : (bl s).drop p = [] := List.drop_of_length_le (by rw [bl_len]; omega)
      rw [if_neg hlt, this, sfx_nil]; rfl
theorem runeCount_sfx (s : ByteArray) : Lib.runeCount s = (sfx (bl s)).length := by
  unfold Lib.runeCount
  rw [runeCount_from s s.size 0 (by omega) (by omega), List.drop_zero]
/-- SameRunes of any two lists -/
theorem same2_l0 (xs ys : List Int) (hl : xs.length = ys.length) (hb : xs.length ≤ 9223372036854775806) : ∀ m i : Nat, i + m = xs.length → xs.take i = ys.take i → glossaryref0_SameRunes.l0 (m + 1) xs ys i = some (decide (xs = ys))
  | 0, i, h, he => by
    have : xs = ys := by rw [List.take_of_length_le (by omega), List.take_of_length_le (by omega)] at he; exact he
    unfold glossaryref0_SameRunes.l0
    rw [if_neg (by omega), decide_eq_true this]
  | m + 1, i, h, he => by
    have hx : xs[i]? = some xs[i] := List.getElem?_eq_getElem (by omega)
    have hy : ys[i]? = some ys[i] := List.getElem?_eq_getElem (by omega)
    unfold glossaryref0_SameRunes.l0
    rw [if_pos (by omega), if_pos (by omega), if_pos (by omega), rd_some hx, rd_some hy]
    by_cases hc : xs[i]'(by omega) = ys[i]'(by omega)
    · have hs : xs.take (i + 1) = ys.take (i + 1) := by rw [List.take_add_one, List.take_add_one, he, hx, hy, hc]
      rw [if_pos hc, wi i (by omega)]
      exact same2_l0 xs ys hl hb m (i + 1) (by omega) hs
    · have hne : xs ≠ ys := fun e => hc (by subst e; rfl)
      rw [if_neg hc, decide_eq_false hne]
theorem same2_ref (xs ys : List Int) (hb : xs.length ≤ 9223372036854775806) : ∃ k, glossaryref0_SameRunes.f k xs ys = some (decide (xs = ys)) := by
  refine ⟨xs.length + 1, ?_⟩
  unfold glossaryref0_SameRunes.f
  by_cases hl : xs.length = ys.length
  · rw [if_pos (by omega)]
    exact same2_l0 xs ys hl hb xs.length 0 (by omega) rfl
  · rw [if_neg (by omega), decide_eq_false (fun e => hl (by rw [e]))]
theorem same2_any (xs ys : List Int) (hl : xs.length ≤ 70368744177664) (hl2 : ys.length ≤ 70368744177664) (W : World) (A1 A2 : Option Addr) (c1 c2 : Nat) (h1 : Rd W W.heap.size .i32 A1 xs) (h2 : Rd W W.heap.size .i32 A2 ys) (hc1 : xs.length ≤ c1) (hc2 : ys.length ≤ c2) :
    Calls Tryd.prog 26 #[.slice A1 xs.length c1, .slice A2 ys.length c2] W fun e w' => e = .returned (.bool (decide (xs = ys))) ∧ Below W.heap.size W w' := by
  obtain ⟨k, hk⟩ := same2_ref xs ys (by omega)
  exact (glossaryref0_SameRunes.calls k A1 c1 xs A2 c2 ys _ W (C_of h1 (by omega)) hc1 (C_of h2 (by omega)) hc2 hk).mono fun e w' ⟨he, hd⟩ => ⟨he, hd.below⟩
/-- utf.Count -/
theorem countfn_any (s : ByteArray) (W : World) (hs : s.size ≤ 140737488351232) :
    Calls Tryd.prog 69 #[.string s] W fun e w' => e = .returned (.int .i64 ((sfx (bl s)).length : Nat)) ∧ Below W.heap.size W w' := by
  have c1 := Tryd.utf8_RuneCountInString s W (by omega)
  rw [runeCount_sfx] at c1
  generalize (sfx (bl s)).length = n at c1 ⊢
  go_enter Tryd.func69, Tryd.ntmps69
  go_wp2_with fail
  refine c1.mono ?_
  rintro e w1 ⟨rfl, pos, rfl⟩
  go_wp2
  go_ret
  exact ⟨rfl, (Below.refl _ W).alloc (Nat.le_refl _) (.stringIter s pos)⟩
/-- utf.Valid -/
theorem validfn_any (s : ByteArray) (W : World) (hT : Tabs W) (hs : s.size ≤ 140737488351232) :
    Calls Tryd.prog 68 #[.string s] W fun e w' => e = .returned (.bool (okB (bl s))) ∧ Below W.heap.size W w' := by
  have c1 := Tryd.utf8_ValidString s W (by omega) hT
  rw [validD_ok, show s.data.toList = bl s from rfl] at c1
  generalize okB (bl s) = n at c1 ⊢
  go_enter Tryd.func68, Tryd.ntmps68
  go_wp2_with fail
  refine c1.mono ?_
  rintro e w1 ⟨rfl, b1⟩
  go_wp2
  go_ret
  exact ⟨rfl, b1⟩
end Go.Proofs.YtbkimhbpcmbflaaDoor.C
