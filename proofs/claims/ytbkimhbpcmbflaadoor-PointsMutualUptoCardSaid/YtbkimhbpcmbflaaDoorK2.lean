/-
  The printed answers of layer 2 and of the kit's lists, in plain words: SameRunes, FullRunes, KeptFullRunes, glossaryref02.Text, glossaryref02.Of.
-/
import Derived.Test.YtbkimhbpcmbflaaDoorK1
set_option linter.unusedVariables false
set_option linter.unusedSimpArgs false
namespace Go.Proofs.YtbkimhbpcmbflaaDoor.C
open Go Go.RowKit Go.Proofs.YtbkimhbpcmbflaaDoor.M Go.Proofs.YtbkimhbpcmbflaaDoor.E Go.Proofs.YtbkimhbpcmbflaaDoor.PAll Go.Proofs.YtbkimhbpcmbflaaDoorW.PrintWords

theorem rd_nat (xs : List Int) (i : Nat) : rd xs (i : Int) = xs.getD i 0 := by unfold rd; rw [Int.toNat_natCast]
theorem rd_some {xs : List Int} {i : Nat} {u : Int} (h : xs[i]? = some u) : rd xs (i : Int) = u := by rw [rd_nat, List.getD_eq_getElem?_getD, h]; rfl
theorem wi (n : Nat) (h : (n : Int) + 1 ≤ 9223372036854775807) : wrap64 ((n : Int) + 1) = ((n + 1 : Nat) : Int) := by rw [w64 (by omega) (by omega)]; omega

/-! ### SameRunes -/
theorem same_l0 (xs : List Int) (hl : xs.length ≤ 9223372036854775806) : ∀ m i : Nat, i + m = xs.length → glossaryref0_SameRunes.l0 (m + 1) xs xs i = some true
  | 0, i, h => by
    unfold glossaryref0_SameRunes.l0
    rw [if_neg (by omega)]
  | m + 1, i, h => by
    unfold glossaryref0_SameRunes.l0
    rw [if_pos (by omega), if_pos (by omega), if_pos (by omega), if_pos rfl, wi i (by omega)]
    exact same_l0 xs hl m (i + 1) (by omega)
theorem same_ref (xs : List Int) (hl : xs.length ≤ 9223372036854775806) : ∃ k, glossaryref0_SameRunes.f k xs xs = some true :=
  ⟨xs.length + 1, by unfold glossaryref0_SameRunes.f; rw [if_pos rfl]; exact same_l0 xs hl xs.length 0 (by omega)⟩

/-! ### FullRunes: the list, and 16 marks behind it -/
def marks : Nat → Int → List Int
  | 0, _ => []
  | m + 1, i => (-91000 - i) :: marks m (i + 1)
theorem marks_len : ∀ m i, (marks m i).length = m
  | 0, _ => rfl
  | m + 1, i => by simp [marks, marks_len m]
theorem marks_get : ∀ m i j, j < m → (marks m i)[j]? = some (-91000 - (i + (j : Nat)))
  | m + 1, i, 0, _ => by simp [marks]
  | m + 1, i, j + 1, h => by
    simp only [marks, List.getElem?_cons_succ]
    rw [marks_get m (i + 1) j (by omega)]
    congr 1
    omega
theorem mark_at (i : Int) (h0 : 0 ≤ i) (h1 : i < 16) : glossarykit_markRunes.f 90 i = some (-91000 - i) := by
  unfold glossarykit_markRunes.f
  have e : wrap32 (-1000 * wrap32 (wrap64 (90 + 1))) = -91000 := by decide +kernel
  rw [e, w32 (x := i) (by omega) (by omega), w32 (by omega) (by omega)]
theorem mark_some (i : Int) : ∃ t, glossarykit_markRunes.f 90 i = some t := ⟨_, rfl⟩
theorem full_l1 (k : Nat) : ∀ (m : Nat) (x3 : List Int) (i : Int), i + m = 16 → 0 ≤ i → x3.length + m < 35184372088832 → glossarykit_FullRunes.l1 (k + m + 1) x3 i = some (x3 ++ marks m i)
  | 0, x3, i, h, h0, hl => by
    unfold glossarykit_FullRunes.l1
    rw [if_neg (by omega)]
    simp [marks]
  | m + 1, x3, i, h, h0, hl => by
    unfold glossarykit_FullRunes.l1
    rw [if_pos (by omega), mark_at i h0 (by omega)]
    show (if x3.length < 35184372088832 then glossarykit_FullRunes.l1 (k + m + 1) (x3 ++ [-91000 - i]) (wrap64 (i + 1)) else none) = _
    rw [if_pos (by omega), w64 (by omega) (by omega), full_l1 k m _ (i + 1) (by omega) (by omega) (by simp; omega)]
    simp [marks]
theorem full_l0 (xs : List Int) (hl : xs.length + 16 < 35184372088832) : ∀ m i : Nat, i + m = xs.length → glossarykit_FullRunes.l0 (17 + m + 1) xs (xs.take i) i = some (xs ++ marks 16 0)
  | 0, i, h => by
    unfold glossarykit_FullRunes.l0
    rw [if_neg (by omega), List.take_of_length_le (by omega)]
    exact full_l1 0 16 xs 0 (by omega) (by omega) (by omega)
  | m + 1, i, h => by
    unfold glossarykit_FullRunes.l0
    rw [if_pos (by omega), if_pos (by omega), if_pos (by rw [List.length_take]; omega), wi i (by omega)]
    have e : xs.take i ++ [rd xs (i : Int)] = xs.take (i + 1) := by
      rw [List.take_add_one, rd_some (List.getElem?_eq_getElem (show i < xs.length by omega)), List.getElem?_eq_getElem (show i < xs.length by omega)]
      rfl
    rw [e]
    exact full_l0 xs hl m (i + 1) (by omega)
theorem full_ref (xs : List Int) (hl : xs.length + 16 < 35184372088832) : ∃ k, glossarykit_FullRunes.f k xs = some (xs ++ marks 16 0) :=
  ⟨_, by unfold glossarykit_FullRunes.f; exact full_l0 xs hl xs.length 0 (by omega)⟩
theorem kept_l0 (xs : List Int) (hl : xs.length + 16 < 35184372088832) : ∀ m i : Nat, i + m = xs.length + 16 → glossarykit_KeptFullRunes.l0 (m + 1) (xs ++ marks 16 0) xs i = some true
  | 0, i, h => by
    unfold glossarykit_KeptFullRunes.l0
    rw [if_neg (by rw [List.length_append, marks_len]; omega)]
  | m + 1, i, h => by
    unfold glossarykit_KeptFullRunes.l0
    have hlen : (xs ++ marks 16 0).length = xs.length + 16 := by rw [List.length_append, marks_len]
    rw [if_pos (by rw [hlen]; omega), w64 (x := (i : Int) - xs.length) (by omega) (by omega)]
    by_cases hi : i < xs.length
    · obtain ⟨t, ht⟩ := mark_some ((i : Int) - xs.length)
      rw [ht]
      show (if (i : Int) < xs.length then _ else _) = _
      have e : rd (xs ++ marks 16 0) (i : Int) = rd xs (i : Int) := by
        rw [rd_some (List.getElem?_eq_getElem hi), rd_some (by rw [List.getElem?_append_left hi]; exact List.getElem?_eq_getElem hi)]
      rw [if_pos (by omega), if_pos (by omega), if_pos e, wi i (by omega)]
      exact kept_l0 xs hl m (i + 1) (by omega)
    · rw [mark_at _ (by omega) (by omega)]
      show (if (i : Int) < xs.length then _ else _) = _
      have e : rd (xs ++ marks 16 0) (i : Int) = -91000 - ((i : Int) - xs.length) := by
        have := marks_get 16 0 (i - xs.length) (by omega)
        rw [rd_some (u := -91000 - (0 + ((i - xs.length : Nat) : Int))) (by rw [List.getElem?_append_right (by omega)]; exact this)]
        omega
      rw [if_neg (by omega), if_pos (by omega), if_pos e, wi i (by omega)]
      exact kept_l0 xs hl m (i + 1) (by omega)
theorem kept_ref (xs : List Int) (hl : xs.length + 16 < 35184372088832) : ∃ k, glossarykit_KeptFullRunes.f k (xs ++ marks 16 0) xs = some true :=
  ⟨_, by
    unfold glossarykit_KeptFullRunes.f
    rw [if_pos (by rw [List.length_append, marks_len, w64 (by omega) (by omega)]; rfl)]
    exact kept_l0 xs hl (xs.length + 16) 0 (by omega)⟩

/-! ### glossaryref02.Text -/
def nums8 (bs : List UInt8) : List Int := bs.map fun b => (b.toNat : Int)
theorem str_nums8 (bs : List UInt8) : strOfNums (nums8 bs) = ⟨bs.toArray⟩ := by
  unfold strOfNums nums8
  rw [List.map_map]
  congr 2
  conv => rhs; rw [← List.map_id bs]
  exact List.map_congr_left fun b _ => by simp
theorem point_at (x : Int) (h0 : -2147483648 ≤ x) (h1 : x ≤ 2147483647) : glossaryref02_Point.f (wrap64 x) = some (isPt x) := by
  rw [w64 (by omega) (by omega)]
  unfold glossaryref02_Point.f
  rw [char_at]
  show (if decide (0 ≤ x ∧ x < 55296 ∨ 57343 < x ∧ x ≤ 1114111) = true then some true else if x ≥ 1114240 then some (decide (x ≤ 1114367)) else some false) = _
  unfold isPt Lib.validRune
  by_cases hv : 0 ≤ x ∧ x < 55296 ∨ 57343 < x ∧ x ≤ 1114111
  · rw [if_pos (by simpa using hv), decide_eq_true hv]; rfl
  · rw [if_neg (by simpa using hv), decide_eq_false hv]
    by_cases h : 1114240 ≤ x
    · rw [if_pos h]; simp [h]
    · rw [if_neg h]; simp [h]
theorem u8n {n : Nat} (h : n < 256) : ((UInt8.ofNat n).toNat : Int) = n := by rw [ofNat_toNat h]
theorem bytes_at (x : Int) (h : isPt x = true) : glossaryref02_Bytes.f x = some (nums8 (pb x)) := by
  unfold isPt Lib.validRune at h
  unfold glossaryref02_Bytes.f
  have hx : 0 ≤ x ∧ x ≤ 1114367 := by simp at h; omega
  have e0 : wrap64 x = x := w64 (by omega) (by omega)
  rw [e0]
  by_cases hi : x > 1114112
  · have hv : Lib.validRune x = false := by unfold Lib.validRune; simp; omega
    have h3 : 1114240 ≤ x := by simp at h; omega
    rw [if_pos hi, w64 (by omega) (by omega)]
    have e1 : (x - 1114112) % 256 = ((x - 1114112).toNat : Int) := by omega
    simp only [pb, hv, Bool.false_eq_true, if_false, nums8, List.map_cons, List.map_nil, u8n (show (x - 1114112).toNat < 256 by omega), e1]
  · rw [if_neg hi]
    obtain ⟨c, rfl⟩ : ∃ c : Nat, x = c := ⟨x.toNat, by omega⟩
    have hc : c < 55296 ∨ (57344 ≤ c ∧ c ≤ 1114111) := by simp at h; omega
    have hv : Lib.validRune (c : Int) = true := by unfold Lib.validRune; simp; omega
    have ep : pb (c : Int) = enc c := by unfold pb; rw [if_pos hv, enc]
    rw [ep, enc_eq hc]
    clear ep hv h hx e0
    by_cases h1 : c < 128
    · have g1 : (c : Int) < 128 := by omega
      rw [if_pos g1, if_pos h1]
      have e1 : (c : Int) % 256 = c := by omega
      simp only [nums8, List.map_cons, List.map_nil, u8n (show c < 256 by omega), e1]
    · have g1 : ¬ (c : Int) < 128 := by omega
      rw [if_neg g1, if_neg h1]
      by_cases h2 : c < 2048
      · have g2 : (c : Int) < 2048 := by omega
        rw [if_pos g2, if_pos h2]
        simp only [nums8, List.map_cons, List.map_nil, u8n (show 192 + c / 64 < 256 by omega), u8n (show 128 + c % 64 < 256 by omega)]
        rw [Int.tdiv_eq_ediv_of_nonneg (by omega), Int.tmod_eq_emod_of_nonneg (by omega), w64 (x := (c : Int) / 64) (by omega) (by omega), w64 (by omega) (by omega), w64 (by omega) (by omega)]
        have e1 : (192 + (c : Int) / 64) % 256 = ((192 + c / 64 : Nat) : Int) := by omega
        have e2 : (128 + (c : Int) % 64) % 256 = ((128 + c % 64 : Nat) : Int) := by omega
        rw [e1, e2]
      · have g2 : ¬ (c : Int) < 2048 := by omega
        rw [if_neg g2, if_neg h2]
        by_cases h3 : c < 65536
        · have g3 : (c : Int) < 65536 := by omega
          rw [if_pos g3, if_pos h3]
          simp only [nums8, List.map_cons, List.map_nil, u8n (show 224 + c / 4096 < 256 by omega), u8n (show 128 + c / 64 % 64 < 256 by omega), u8n (show 128 + c % 64 < 256 by omega)]
          rw [Int.tdiv_eq_ediv_of_nonneg (by omega), Int.tdiv_eq_ediv_of_nonneg (by omega), w64 (x := (c : Int) / 64) (by omega) (by omega), Int.tmod_eq_emod_of_nonneg (by omega), Int.tmod_eq_emod_of_nonneg (by omega), w64 (x := (c : Int) / 4096) (by omega) (by omega), w64 (by omega) (by omega), w64 (by omega) (by omega), w64 (by omega) (by omega)]
          have e1 : (224 + (c : Int) / 4096) % 256 = ((224 + c / 4096 : Nat) : Int) := by omega
          have e2 : (128 + (c : Int) / 64 % 64) % 256 = ((128 + c / 64 % 64 : Nat) : Int) := by omega
          have e3 : (128 + (c : Int) % 64) % 256 = ((128 + c % 64 : Nat) : Int) := by omega
          rw [e1, e2, e3]
        · have g3 : ¬ (c : Int) < 65536 := by omega
          rw [if_neg g3, if_neg h3]
          have h4 : c ≤ 1114111 := by omega
          simp only [nums8, List.map_cons, List.map_nil, u8n (show 240 + c / 262144 < 256 by omega), u8n (show 128 + c / 4096 % 64 < 256 by omega), u8n (show 128 + c / 64 % 64 < 256 by omega), u8n (show 128 + c % 64 < 256 by omega)]
          rw [Int.tdiv_eq_ediv_of_nonneg (by omega), Int.tdiv_eq_ediv_of_nonneg (by omega), Int.tdiv_eq_ediv_of_nonneg (by omega), w64 (x := (c : Int) / 64) (by omega) (by omega), w64 (x := (c : Int) / 4096) (by omega) (by omega), w64 (x := (c : Int) / 262144) (by omega) (by omega), Int.tmod_eq_emod_of_nonneg (by omega), Int.tmod_eq_emod_of_nonneg (by omega), Int.tmod_eq_emod_of_nonneg (by omega), w64 (by omega) (by omega), w64 (by omega) (by omega), w64 (by omega) (by omega), w64 (by omega) (by omega)]
          have e1 : (240 + (c : Int) / 262144) % 256 = ((240 + c / 262144 : Nat) : Int) := by omega
          have e2 : (128 + (c : Int) / 4096 % 64) % 256 = ((128 + c / 4096 % 64 : Nat) : Int) := by omega
          have e3 : (128 + (c : Int) / 64 % 64) % 256 = ((128 + c / 64 % 64 : Nat) : Int) := by omega
          have e4 : (128 + (c : Int) % 64) % 256 = ((128 + c % 64 : Nat) : Int) := by omega
          rw [e1, e2, e3, e4]
theorem text_l1 (k : Nat) (xs : List Int) (i : Int) (b : List Int) (hb : b.length ≤ 4) : ∀ (m j : Nat) (x4 : List Int), b.length = j + m → x4.length + m ≤ 140737488355328 → glossaryref02_Text.l1 (k + m + 1) xs x4 i b j = glossaryref02_Text.l0 k xs (x4 ++ b.drop j) (wrap64 (i + 1))
  | 0, j, x4, h, hl => by
    unfold glossaryref02_Text.l1
    rw [if_neg (by omega), List.drop_of_length_le (by omega), List.append_nil]
  | m + 1, j, x4, h, hl => by
    unfold glossaryref02_Text.l1
    have hj : j < b.length := by omega
    rw [if_pos (by omega), if_pos (by omega), if_pos (by omega), wi j (by omega)]
    have := text_l1 k xs i b hb m (j + 1) (x4 ++ [rd b (j : Int)]) (by omega) (by simp; omega)
    rw [show k + (m + 1) = k + m + 1 by omega, this]
    rw [rd_some (List.getElem?_eq_getElem hj), List.append_assoc, List.drop_eq_getElem_cons hj]
    rfl
theorem nums8_append (a b : List UInt8) : nums8 (a ++ b) = nums8 a ++ nums8 b := by simp [nums8]
theorem nums8_len (a : List UInt8) : (nums8 a).length = a.length := by simp [nums8]
theorem textP_snoc (a : List Int) (x : Int) : textP (a ++ [x]) = textP a ++ pb x := by simp [textP]
theorem text_step (k : Nat) (xs : List Int) (hl : xs.length ≤ 35184372087808) (i : Nat) (x : Int) (hi : xs[i]? = some x) (h0 : -2147483648 ≤ x) (h1 : x ≤ 2147483647) (hp : isPt x = true) :
    glossaryref02_Text.l0 (k + (pb x).length + 1 + 1) xs (nums8 (textP (xs.take i))) i = glossaryref02_Text.l0 k xs (nums8 (textP (xs.take (i + 1)))) ((i + 1 : Nat) : Int) := by
  have hlt : i < xs.length := (List.getElem?_eq_some_iff.1 hi).1
  have h4 := textP_len (xs.take i)
  have h5 : (xs.take i).length ≤ i := List.length_take_le _ _
  have h6 := pb_len x
  conv => lhs; unfold glossaryref02_Text.l0
  rw [if_pos (by omega), if_pos (by omega), rd_some hi, point_at x h0 h1, hp, Option.bind_some, if_pos rfl, bytes_at x hp, Option.bind_some,
    show (0 : Int) = ((0 : Nat) : Int) from rfl]
  rw [show k + (pb x).length + 1 = k + (nums8 (pb x)).length + 1 by rw [nums8_len]]
  rw [text_l1 k xs i (nums8 (pb x)) (by rw [nums8_len]; exact h6) (nums8 (pb x)).length 0 _ (by omega) (by rw [nums8_len, nums8_len]; omega), wi i (by omega), List.drop_zero, ← nums8_append]
  have e : xs.take (i + 1) = xs.take i ++ [x] := by rw [List.take_add_one, hi]; rfl
  rw [e, textP_snoc]
theorem text_walk (xs : List Int) (hl : xs.length ≤ 35184372087808) (hx : ∀ x ∈ xs, -2147483648 ≤ x ∧ x ≤ 2147483647) (r : ByteArray × Int) (p : Nat) (hp : p ≤ xs.length) (hall : ∀ y ∈ xs.take p, isPt y = true)
    (hend : ∃ k, glossaryref02_Text.l0 k xs (nums8 (textP (xs.take p))) p = some r) : ∀ m i : Nat, i + m = p → ∃ k, glossaryref02_Text.l0 k xs (nums8 (textP (xs.take i))) i = some r
  | 0, i, h => by
    obtain rfl : i = p := by omega
    exact hend
  | m + 1, i, h => by
    obtain ⟨k, hk⟩ := text_walk xs hl hx r p hp hall hend m (i + 1) (by omega)
    have hlt : i < xs.length := by omega
    have hi : xs[i]? = some xs[i] := List.getElem?_eq_getElem hlt
    have hr := hx _ (List.mem_of_getElem? hi)
    have hm : isPt xs[i] = true := hall _ (List.mem_of_getElem? (i := i) (by rw [List.getElem?_take, if_pos (by omega)]; exact hi))
    exact ⟨_, (text_step k xs hl i xs[i] hi hr.1 hr.2 hm).trans hk⟩
theorem text_ref_ok (xs : List Int) (hl : xs.length ≤ 35184372087808) (hx : ∀ x ∈ xs, -2147483648 ≤ x ∧ x ≤ 2147483647) (hall : ∀ y ∈ xs, isPt y = true) :
    ∃ k, glossaryref02_Text.f k xs = some ((⟨(textP xs).toArray⟩ : ByteArray), (-1 : Int)) := by
  have ht : xs.take xs.length = xs := List.take_of_length_le (Nat.le_refl _)
  obtain ⟨k, hk⟩ := text_walk xs hl hx (⟨(textP xs).toArray⟩, -1) xs.length (Nat.le_refl _) (by rw [ht]; exact hall) ⟨1, by
    unfold glossaryref02_Text.l0
    rw [if_neg (by omega), ht, str_nums8]⟩ xs.length 0 (by omega)
  exact ⟨k, hk⟩
theorem text_ref_bad (xs : List Int) (hl : xs.length ≤ 35184372087808) (hx : ∀ x ∈ xs, -2147483648 ≤ x ∧ x ≤ 2147483647) (p : Nat) (x : Int) (hp : xs[p]? = some x) (hbad : isPt x = false) (hall : ∀ y ∈ xs.take p, isPt y = true) :
    ∃ k, glossaryref02_Text.f k xs = some ((⟨#[]⟩ : ByteArray), (p : Int)) := by
  have hlt : p < xs.length := (List.getElem?_eq_some_iff.1 hp).1
  have hr := hx _ (List.mem_of_getElem? hp)
  obtain ⟨k, hk⟩ := text_walk xs hl hx (⟨#[]⟩, p) p (by omega) hall ⟨1, by
    unfold glossaryref02_Text.l0
    rw [if_pos (by omega), if_pos (by omega), rd_some hp, point_at x hr.1 hr.2, hbad]
    rfl⟩ p 0 (by omega)
  exact ⟨k, hk⟩

/-! ### glossaryref02.Of -/
theorem pts_cons {l : List UInt8} (h : l ≠ []) : pts l = (pt l : Int) :: pts (l.drop (dw l)) := by unfold pts; rw [sfx_cons h]; rfl
theorem of_l0 (s : ByteArray) (hs : s.size < 35184372088832) : ∀ (n pos : Nat) (x3 : List Int), s.size ≤ pos + n → pos ≤ s.size → x3.length ≤ pos →
    ∃ k, glossaryref02_Of.l0 (k + 12) s x3 pos = some (x3 ++ pts ((bl s).drop pos))
  | n, pos, x3, h, hp, hx => by
    by_cases hlt : pos < s.size
    · cases n with
      | zero => omega
      | succ n =>
        have hne := bl_nonempty hlt
        have hw1 := dw_pos hne
        have hw2 := dw_len hne
        rw [List.length_drop, bl_len] at hw2
        obtain ⟨k, hk⟩ := of_l0 s hs n (pos + dw ((bl s).drop pos)) (x3 ++ [(pt ((bl s).drop pos) : Int)]) (by omega) (by omega) (by simp; omega)
        refine ⟨k + 1, ?_⟩
        show glossaryref02_Of.l0 (k + 12 + 1) s x3 pos = _
        unfold glossaryref02_Of.l0
        rw [if_pos (by omega), next_ref s (by omega) pos k]
        have en : nextP (bl s) (pos : Int) = ((pt ((bl s).drop pos) : Int), (dw ((bl s).drop pos) : Int)) := by
          unfold nextP
          rw [if_neg (by rw [bl_len]; omega), Int.toNat_natCast]
        rw [en]
        show (if x3.length < 35184372088832 then glossaryref02_Of.l0 (k + 12) s (x3 ++ [(pt ((bl s).drop pos) : Int)]) (wrap64 ((pos : Int) + (dw ((bl s).drop pos) : Int))) else none) = _
        rw [if_pos (by omega), w64 (by omega) (by omega), ← Int.natCast_add, hk, pts_cons hne, List.drop_drop]
        simp
    · refine ⟨0, ?_⟩
      show glossaryref02_Of.l0 (11 + 1) s x3 pos = _
      unfold glossaryref02_Of.l0
      rw [if_neg (by omega), List.drop_of_length_le (by rw [bl_len]; omega)]
      simp [pts, sfx_nil]
theorem of_ref (s : ByteArray) (hs : s.size < 35184372088832) : ∃ k, glossaryref02_Of.f k s = some (pts (bl s)) := by
  obtain ⟨k, hk⟩ := of_l0 s hs s.size 0 [] (by omega) (by omega) (by simp)
  exact ⟨k + 12, by unfold glossaryref02_Of.f; simpa using hk⟩
end Go.Proofs.YtbkimhbpcmbflaaDoor.C
