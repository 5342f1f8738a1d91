/-
  Places in plain words: where units begin, pairs of bytes, lines; and the document's answers (glossaryref02.Unit, Byte, Wide, Line, as printed) in the same words.
-/
import Derived.Test.YtbkimhbpcmbflaaDoorK2
set_option linter.unusedVariables false
set_option linter.unusedSimpArgs false
namespace Go.Proofs.YtbkimhbpcmbflaaDoor.C
open Go Go.RowKit Go.Proofs.YtbkimhbpcmbflaaDoor.M Go.Proofs.YtbkimhbpcmbflaaDoor.E Go.Proofs.YtbkimhbpcmbflaaDoor.PAll Go.Proofs.YtbkimhbpcmbflaaDoorW.PrintWords

/-! ### where units begin -/
def off (us : List (List UInt8)) (i : Nat) : Nat := ((us.take i).map dw).sum
theorem off_zero (us : List (List UInt8)) : off us 0 = 0 := by simp [off]
theorem off_cons (t : List UInt8) (us : List (List UInt8)) (i : Nat) : off (t :: us) (i + 1) = dw t + off us i := by simp [off]
theorem off_succ {us : List (List UInt8)} {i : Nat} {t : List UInt8} (h : us[i]? = some t) : off us (i + 1) = off us i + dw t := by
  unfold off
  rw [List.take_add_one, h]
  simp
theorem sfx_at : ∀ (l : List UInt8) (i : Nat) (t : List UInt8), (sfx l)[i]? = some t → t = l.drop (off (sfx l) i) := by
  intro l
  induction l using sfx_ind with
  | h0 => intro i t h; rw [sfx_nil] at h; simp at h
  | h1 l hne ih =>
    intro i t h
    rw [sfx_cons hne] at h ⊢
    cases i with
    | zero => simp at h; rw [off_zero, List.drop_zero, h]
    | succ i =>
      simp only [List.getElem?_cons_succ] at h
      rw [off_cons, ← List.drop_drop]
      exact ih i t h
theorem off_total : ∀ l : List UInt8, off (sfx l) (sfx l).length = l.length := by
  intro l
  induction l using sfx_ind with
  | h0 => rw [sfx_nil]; rfl
  | h1 l hne ih =>
    rw [sfx_cons hne, List.length_cons, off_cons, ih, List.length_drop]
    have := dw_len hne
    omega
theorem off_step {l : List UInt8} {i : Nat} (h : i < (sfx l).length) : off (sfx l) i < off (sfx l) (i + 1) := by
  have ht : (sfx l)[i]? = some (sfx l)[i] := List.getElem?_eq_getElem h
  have := dw_pos (sfx_ne (List.mem_of_getElem? ht))
  rw [off_succ ht]
  omega
theorem off_lt (l : List UInt8) : ∀ d i, i + d + 1 ≤ (sfx l).length → off (sfx l) i < off (sfx l) (i + d + 1)
  | 0, i, h => off_step (by omega)
  | d + 1, i, h => by
    have h1 := off_lt l d i (by omega)
    have h2 := off_step (l := l) (i := i + d + 1) (by omega)
    rw [show i + (d + 1) + 1 = i + d + 1 + 1 by omega]
    omega
theorem off_mono (l : List UInt8) {i j : Nat} (hij : i ≤ j) (hj : j ≤ (sfx l).length) : off (sfx l) i ≤ off (sfx l) j := by
  rcases Nat.lt_or_ge i j with h | h
  · have := off_lt l (j - i - 1) i (by omega)
    rw [show i + (j - i - 1) + 1 = j by omega] at this
    omega
  · rw [show i = j by omega]; exact Nat.le_refl _
theorem off_le (l : List UInt8) {i : Nat} (hi : i ≤ (sfx l).length) : off (sfx l) i ≤ l.length := by
  have := off_mono l hi (Nat.le_refl _)
  rw [off_total] at this
  exact this
theorem off_ge (l : List UInt8) : ∀ i, i ≤ (sfx l).length → i ≤ off (sfx l) i
  | 0, _ => Nat.zero_le _
  | i + 1, h => by have := off_ge l i (by omega); have := off_step (l := l) (i := i) (by omega); omega

/-- the unit of a number -/
def IsU (l : List UInt8) (at_ : Int) (i : Nat) : Prop := i ≤ (sfx l).length ∧ (i = 0 ∨ (off (sfx l) i : Int) ≤ at_) ∧ (i < (sfx l).length → at_ < (off (sfx l) (i + 1) : Int))
theorem IsU.unique {l : List UInt8} {a : Int} {i j : Nat} (hi : IsU l a i) (hj : IsU l a j) : i = j := by
  rcases Nat.lt_trichotomy i j with h | h | h
  · have h1 := hi.2.2 (by have := hj.1; omega)
    have h2 := off_mono l (show i + 1 ≤ j by omega) hj.1
    rcases hj.2.1 with h3 | h3 <;> omega
  · exact h
  · have h1 := hj.2.2 (by have := hi.1; omega)
    have h2 := off_mono l (show j + 1 ≤ i by omega) hi.1
    rcases hi.2.1 with h3 | h3 <;> omega

/-! ### the beginning of a text, cut at a unit's beginning, has the same units -/
theorem take_dec {t : List UInt8} (h : t ≠ []) {n : Nat} (hn : dw t ≤ n) : dc (t.take n) = dc t ∧ dw (t.take n) = dw t := by
  have hp := dw_pos h
  have hne : t.take n ≠ [] := by
    intro e
    have := congrArg List.length e
    rw [List.length_take] at this
    have hl : 0 < t.length := List.length_pos_iff.2 h
    rw [List.length_nil] at this
    omega
  cases hi : ill t with
  | false =>
    have e1 := take_enc h hi
    have e2 : t.take n = enc (dc t) ++ (t.take n).drop (dw t) := by
      have := List.take_append_drop (dw t) (t.take n)
      rw [List.take_take, Nat.min_eq_left hn, e1] at this
      exact this.symm
    have hw : dw t = (enc (dc t)).length := by
      have h3 := List.take_append_drop (dw t) t
      rw [e1] at h3
      have := dw_enc (okc_dc h) (t.drop (dw t))
      rw [h3] at this
      exact this
    rw [e2, dc_enc (okc_dc h), dw_enc (okc_dc h)]
    exact ⟨rfl, hw.symm⟩
  | true =>
    have hdi : dc t = 65533 ∧ dw t = 1 := by simpa [ill] using hi
    cases hj : ill (t.take n) with
    | true =>
      have hdj : dc (t.take n) = 65533 ∧ dw (t.take n) = 1 := by simpa [ill] using hj
      rw [hdi.1, hdi.2, hdj.1, hdj.2]
      exact ⟨rfl, rfl⟩
    | false =>
      exfalso
      have e1 := take_enc hne hj
      have e2 : t = enc (dc (t.take n)) ++ ((t.take n).drop (dw (t.take n)) ++ t.drop n) := by
        rw [← e1, ← List.append_assoc, List.take_append_drop, List.take_append_drop]
      have k1 := dc_enc (okc_dc hne) ((t.take n).drop (dw (t.take n)) ++ t.drop n)
      have k2 := dw_enc (okc_dc hne) ((t.take n).drop (dw (t.take n)) ++ t.drop n)
      rw [← e2] at k1 k2
      rw [hdi.1] at k1
      rw [hdi.2, ← k1] at k2
      have e3 : (enc 65533).length = 3 := by decide
      rw [e3] at k2
      omega
theorem b0_take {t : List UInt8} {n : Nat} (hn : 1 ≤ n) : b0 (t.take n) = b0 t := by
  unfold b0
  cases t with
  | nil => simp
  | cons a t => cases n with
    | zero => omega
    | succ n => rfl
theorem pt_take {t : List UInt8} (h : t ≠ []) {n : Nat} (hn : dw t ≤ n) : pt (t.take n) = pt t := by
  have h1 := take_dec h hn
  have h2 := b0_take (t := t) (n := n) (by have := dw_pos h; omega)
  unfold pt ill
  rw [h1.1, h1.2, h2]
theorem pts_take : ∀ (l : List UInt8) (i : Nat), i ≤ (sfx l).length → pts (l.take (off (sfx l) i)) = (pts l).take i := by
  intro l
  induction l using sfx_ind with
  | h0 => intro i h; rw [sfx_nil] at h ⊢; simp [pts, sfx_nil]
  | h1 l hne ih =>
    intro i h
    cases i with
    | zero => rw [off_zero]; simp [pts, sfx_nil]
    | succ i =>
      rw [sfx_cons hne, List.length_cons] at h
      have hw := dw_pos hne
      rw [sfx_cons hne, off_cons]
      have hn2 : l.take (dw l + off (sfx (l.drop (dw l))) i) ≠ [] := by
        intro e
        have := congrArg List.length e
        rw [List.length_take] at this
        have hl : 0 < l.length := List.length_pos_iff.2 hne
        rw [List.length_nil] at this
        omega
      have hd := take_dec hne (n := dw l + off (sfx (l.drop (dw l))) i) (by omega)
      rw [pts_cons hn2, pts_cons hne, pt_take hne (by omega), hd.2, List.drop_take, Nat.add_sub_cancel_left, ih i (by omega)]
      rfl

/-! ### more rounds tell the same -/
theorem le_mono {α β : Type} {g : Nat → α → Option β} (hm : ∀ a k, LeO (g k a) (g (k + 1) a)) {a : α} {r : β} {k : Nat} (h : g k a = some r) : ∀ j, g (k + j) a = some r
  | 0 => h
  | j + 1 => hm a (k + j) r (le_mono hm h j)

/-! ### glossaryref02.Unit -/
theorem nextP_in (l : List UInt8) (p : Nat) (h : p < l.length) : nextP l (p : Int) = ((pt (l.drop p) : Int), (dw (l.drop p) : Int)) := by
  have hn : ¬ ((p : Int) < 0 ∨ (l.length : Int) ≤ (p : Int)) := by omega
  unfold nextP
  rw [if_neg hn, Int.toNat_natCast]
theorem nextP_at (s : ByteArray) {i : Nat} (h : i < (sfx (bl s)).length) : ∃ t, (sfx (bl s))[i]? = some t ∧ nextP (bl s) (off (sfx (bl s)) i : Nat) = ((pt t : Int), (dw t : Int)) := by
  obtain ⟨t, ht⟩ : ∃ t, (sfx (bl s))[i]? = some t := ⟨_, List.getElem?_eq_getElem h⟩
  have e := sfx_at _ _ _ ht
  have hlt : off (sfx (bl s)) i < (bl s).length := by
    have h1 := off_step h
    have h2 := off_le (bl s) (i := i + 1) (by omega)
    omega
  have e2 := nextP_in (bl s) _ hlt
  rw [← e] at e2
  exact ⟨t, ht, e2⟩
theorem unit_end (s : ByteArray) (a : Int) (i p k : Nat) (h : s.size ≤ p) : glossaryref02_Unit.l0 (k + 1) s a i p = some ((i : Int), (p : Int)) := by
  have h1 : ¬ ((p : Int) < (s.size : Int)) := by omega
  unfold glossaryref02_Unit.l0
  rw [if_neg h1]
theorem unit_hit (s : ByteArray) (a : Int) (i p d k : Nat) (x : Int) (h : p < s.size) (hs : s.size < 35184372088832) (hd : d ≤ 4) (hn : glossaryref02_Next.f k s p = some (x, (d : Int))) (hc : a < ((p + d : Nat) : Int)) : glossaryref02_Unit.l0 (k + 1) s a i p = some ((i : Int), (p : Int)) := by
  have h1 : (p : Int) < (s.size : Int) := by omega
  have h2 : wrap64 ((p : Int) + (d : Int)) = ((p + d : Nat) : Int) := by rw [w64 (by omega) (by omega)]; omega
  unfold glossaryref02_Unit.l0
  rw [if_pos h1, hn, Option.bind_some, h2, if_pos hc]
theorem unit_next (s : ByteArray) (a : Int) (i p d k : Nat) (x : Int) (h : p < s.size) (hi : i ≤ p) (hs : s.size < 35184372088832) (hd : d ≤ 4) (hn : glossaryref02_Next.f k s p = some (x, (d : Int))) (hc : ¬ a < ((p + d : Nat) : Int)) : glossaryref02_Unit.l0 (k + 1) s a i p = glossaryref02_Unit.l0 k s a ((i + 1 : Nat) : Int) ((p + d : Nat) : Int) := by
  have h1 : (p : Int) < (s.size : Int) := by omega
  have h2 : wrap64 ((p : Int) + (d : Int)) = ((p + d : Nat) : Int) := by rw [w64 (by omega) (by omega)]; omega
  have h3 : wrap64 ((i : Int) + 1) = ((i + 1 : Nat) : Int) := wi i (by omega)
  conv => lhs; unfold glossaryref02_Unit.l0
  rw [if_pos h1, hn, Option.bind_some, h2, if_neg hc, h3]
theorem unit_l0 (s : ByteArray) (hs : s.size < 35184372088832) (a : Int) : ∀ m i : Nat, i + m = (sfx (bl s)).length → (i = 0 ∨ (off (sfx (bl s)) i : Int) ≤ a) →
    ∃ k u, IsU (bl s) a u ∧ glossaryref02_Unit.l0 (k + 12) s a i (off (sfx (bl s)) i) = some ((u : Int), (off (sfx (bl s)) u : Int))
  | 0, i, h, h0 => by
    have e := off_total (bl s)
    rw [bl_len] at e
    have hi : i = (sfx (bl s)).length := by omega
    rw [← hi] at e
    exact ⟨0, i, ⟨by omega, h0, fun hh => by omega⟩, unit_end s a i _ 11 (by omega)⟩
  | m + 1, i, h, h0 => by
    have hi : i < (sfx (bl s)).length := by omega
    obtain ⟨t, ht, hn⟩ := nextP_at s hi
    have hs1 := off_succ ht
    have hle := off_le (bl s) (i := i + 1) (by omega)
    have hst := off_step hi
    rw [bl_len] at hle
    have hil := off_ge (bl s) i (by omega)
    have hd4 : dw t ≤ 4 := by have := d_facts (sfx_ne (List.mem_of_getElem? ht)); omega
    have hf : ∀ k, glossaryref02_Next.f (k + 12) s (off (sfx (bl s)) i : Nat) = some ((pt t : Int), (dw t : Int)) := fun k => (next_ref s (by omega) _ k).trans (congrArg some hn)
    by_cases hc : a < ((off (sfx (bl s)) i + dw t : Nat) : Int)
    · exact ⟨1, i, ⟨by omega, h0, fun _ => by rw [hs1]; exact hc⟩, unit_hit s a i _ (dw t) 12 _ (by omega) hs hd4 (hf 0) hc⟩
    · obtain ⟨k, u, hu, hk⟩ := unit_l0 s hs a m (i + 1) (by omega) (.inr (by rw [hs1]; omega))
      rw [hs1] at hk
      exact ⟨k + 1, u, hu, (unit_next s a i _ (dw t) (k + 12) _ (by omega) hil hs hd4 (hf k) hc).trans hk⟩
theorem unit_ref (s : ByteArray) (hs : s.size < 35184372088832) (a : Int) : ∃ k u, IsU (bl s) a u ∧ glossaryref02_Unit.f k s a = some ((u : Int), (off (sfx (bl s)) u : Int)) := by
  obtain ⟨k, u, hu, hk⟩ := unit_l0 s hs a (sfx (bl s)).length 0 (by omega) (.inl rfl)
  refine ⟨k + 12, u, hu, ?_⟩
  unfold glossaryref02_Unit.f
  rw [off_zero] at hk
  exact hk

/-! ### glossaryref02.Byte -/
def clampN (n : Nat) (u : Int) : Nat := (min u (n : Int)).toNat
theorem byte_stop (s : ByteArray) (u : Int) (i p k : Nat) (h : ¬ (i : Int) < u ∨ s.size ≤ p) : glossaryref02_Byte.l0 (k + 1) s u p i = some (p : Int) := by
  unfold glossaryref02_Byte.l0
  by_cases hc : (i : Int) < u
  · have h1 : ¬ ((p : Int) < (s.size : Int)) := by omega
    rw [if_pos hc, if_neg h1]
  · rw [if_neg hc]
theorem byte_next (s : ByteArray) (u : Int) (i p d k : Nat) (x : Int) (h : p < s.size) (hi : i ≤ p) (hs : s.size < 35184372088832) (hd : d ≤ 4) (hn : glossaryref02_Next.f k s p = some (x, (d : Int))) (hc : (i : Int) < u) : glossaryref02_Byte.l0 (k + 1) s u p i = glossaryref02_Byte.l0 k s u ((p + d : Nat) : Int) ((i + 1 : Nat) : Int) := by
  have h1 : (p : Int) < (s.size : Int) := by omega
  have h2 : wrap64 ((p : Int) + (d : Int)) = ((p + d : Nat) : Int) := by rw [w64 (by omega) (by omega)]; omega
  have h3 : wrap64 ((i : Int) + 1) = ((i + 1 : Nat) : Int) := wi i (by omega)
  conv => lhs; unfold glossaryref02_Byte.l0
  rw [if_pos hc, if_pos h1, hn, Option.bind_some, h2, h3]
theorem byte_l0 (s : ByteArray) (hs : s.size < 35184372088832) (u : Int) : ∀ m i : Nat, i + m = (sfx (bl s)).length → (i : Int) ≤ max u 0 →
    ∃ k, glossaryref02_Byte.l0 (k + 12) s u (off (sfx (bl s)) i) i = some (off (sfx (bl s)) (clampN (sfx (bl s)).length u) : Int)
  | 0, i, h, h0 => by
    have e := off_total (bl s)
    rw [bl_len] at e
    have hi : i = (sfx (bl s)).length := by omega
    rw [← hi] at e
    have ec : clampN (sfx (bl s)).length u = i := by unfold clampN; omega
    rw [ec]
    exact ⟨0, byte_stop s u i _ 11 (.inr (by omega))⟩
  | m + 1, i, h, h0 => by
    have hi : i < (sfx (bl s)).length := by omega
    obtain ⟨t, ht, hn⟩ := nextP_at s hi
    have hs1 := off_succ ht
    have hle := off_le (bl s) (i := i + 1) (by omega)
    have hst := off_step hi
    rw [bl_len] at hle
    have hil := off_ge (bl s) i (by omega)
    have hd4 : dw t ≤ 4 := by have := d_facts (sfx_ne (List.mem_of_getElem? ht)); omega
    have hf : ∀ k, glossaryref02_Next.f (k + 12) s (off (sfx (bl s)) i : Nat) = some ((pt t : Int), (dw t : Int)) := fun k => (next_ref s (by omega) _ k).trans (congrArg some hn)
    by_cases hc : (i : Int) < u
    · obtain ⟨k, hk⟩ := byte_l0 s hs u m (i + 1) (by omega) (by omega)
      rw [hs1] at hk
      exact ⟨k + 1, (byte_next s u i _ (dw t) (k + 12) _ (by omega) hil hs hd4 (hf k) hc).trans hk⟩
    · have ec : clampN (sfx (bl s)).length u = i := by unfold clampN; omega
      rw [ec]
      exact ⟨0, byte_stop s u i _ 11 (.inl hc)⟩
theorem byte_ref (s : ByteArray) (hs : s.size < 35184372088832) (u : Int) : ∃ k, glossaryref02_Byte.f k s u = some (off (sfx (bl s)) (clampN (sfx (bl s)).length u) : Int) := by
  obtain ⟨k, hk⟩ := byte_l0 s hs u (sfx (bl s)).length 0 (by omega) (by omega)
  refine ⟨k + 12, ?_⟩
  unfold glossaryref02_Byte.f
  rw [off_zero] at hk
  exact hk

/-! ### glossaryref02.Wide, Line -/
def wsum : List Int → Int
  | [] => 0
  | x :: xs => (if 65535 < x ∧ x ≤ 1114111 then 2 else 1) + wsum xs
def lfold : Int → Int → List Int → Int × Int
  | a, b, [] => (a, b)
  | a, b, x :: xs => if x = 10 then lfold (a + 1) 1 xs else lfold a (b + 1) xs
theorem wide_l0 (xs : List Int) (hl : xs.length ≤ 1048576) (hx : ∀ x ∈ xs, -2147483648 ≤ x ∧ x ≤ 2147483647) : ∀ (m i : Nat) (z : Int), i + m = xs.length → 0 ≤ z → z ≤ 2 * i → glossaryref02_Wide.l0 (m + 1) z xs i = some (z + wsum (xs.drop i))
  | 0, i, z, h, h0, h1 => by
    have hi : ¬ ((i : Int) < (xs.length : Int)) := by omega
    unfold glossaryref02_Wide.l0
    rw [if_neg hi, List.drop_of_length_le (by omega)]
    simp [wsum]
  | m + 1, i, z, h, h0, h1 => by
    have hi : (i : Int) < (xs.length : Int) := by omega
    have hi0 : (0 : Int) ≤ i := by omega
    obtain ⟨x, hxi⟩ : ∃ x, xs[i]? = some x := ⟨_, List.getElem?_eq_getElem (show i < xs.length by omega)⟩
    have hr := hx x (List.mem_of_getElem? hxi)
    have hd : xs.drop i = x :: xs.drop (i + 1) := by
      have := List.drop_eq_getElem_cons (l := xs) (i := i) (by omega)
      rw [this]
      rw [List.getElem?_eq_getElem (show i < xs.length by omega)] at hxi
      rw [Option.some.inj hxi]
    have hw : wrap64 (rd xs (i : Int)) = x := by rw [rd_some hxi, w64 (by omega) (by omega)]
    have h3 : wrap64 ((i : Int) + 1) = ((i + 1 : Nat) : Int) := wi i (by omega)
    have h4 : wrap64 (z + 1) = z + 1 := w64 (by omega) (by omega)
    have h5 : wrap64 (z + 1 + 1) = z + 2 := by rw [w64 (by omega) (by omega)]; omega
    conv => lhs; unfold glossaryref02_Wide.l0
    rw [if_pos hi, if_pos hi0, hw, h3, h4, h5, hd, wsum]
    by_cases c1 : x > 65535
    · rw [if_pos c1]
      by_cases c2 : x ≤ 1114111
      · rw [if_pos c2, if_pos ⟨c1, c2⟩, wide_l0 xs hl hx m (i + 1) (z + 2) (by omega) (by omega) (by omega)]
        congr 1; omega
      · rw [if_neg c2, if_neg (fun hh => c2 hh.2), wide_l0 xs hl hx m (i + 1) (z + 1) (by omega) (by omega) (by omega)]
        congr 1; omega
    · rw [if_neg c1, if_neg (fun hh => c1 hh.1), wide_l0 xs hl hx m (i + 1) (z + 1) (by omega) (by omega) (by omega)]
      congr 1; omega
theorem line_l0 (xs : List Int) (hl : xs.length ≤ 1048576) : ∀ (m i : Nat) (a b : Int), i + m = xs.length → 0 ≤ a → a ≤ i + 1 → 0 ≤ b → b ≤ i + 1 → glossaryref02_Line.l0 (m + 1) a b xs i = some (lfold a b (xs.drop i))
  | 0, i, a, b, h, h0, h1, h2, h3 => by
    have hi : ¬ ((i : Int) < (xs.length : Int)) := by omega
    unfold glossaryref02_Line.l0
    rw [if_neg hi, List.drop_of_length_le (by omega)]
    simp [lfold]
  | m + 1, i, a, b, h, h0, h1, h2, h3 => by
    have hi : (i : Int) < (xs.length : Int) := by omega
    have hi0 : (0 : Int) ≤ i := by omega
    obtain ⟨x, hxi⟩ : ∃ x, xs[i]? = some x := ⟨_, List.getElem?_eq_getElem (show i < xs.length by omega)⟩
    have hd : xs.drop i = x :: xs.drop (i + 1) := by
      have := List.drop_eq_getElem_cons (l := xs) (i := i) (by omega)
      rw [this]
      rw [List.getElem?_eq_getElem (show i < xs.length by omega)] at hxi
      rw [Option.some.inj hxi]
    have h4 : wrap64 ((i : Int) + 1) = ((i + 1 : Nat) : Int) := wi i (by omega)
    have h5 : wrap64 (a + 1) = a + 1 := w64 (by omega) (by omega)
    have h6 : wrap64 (b + 1) = b + 1 := w64 (by omega) (by omega)
    conv => lhs; unfold glossaryref02_Line.l0
    rw [if_pos hi, if_pos hi0, rd_some hxi, h4, h5, h6, hd, lfold]
    by_cases c1 : x = 10
    · rw [if_pos c1, if_pos c1, line_l0 xs hl m (i + 1) (a + 1) 1 (by omega) (by omega) (by omega) (by omega) (by omega)]
    · rw [if_neg c1, if_neg c1, line_l0 xs hl m (i + 1) a (b + 1) (by omega) (by omega) (by omega) (by omega) (by omega)]
theorem ex_bl (s : ByteArray) (n : Nat) : bl (s.extract 0 n) = (bl s).take n := by unfold bl; simp
theorem of_take (s : ByteArray) (hs : s.size ≤ 1048576) (u : Nat) (hu : u ≤ (sfx (bl s)).length) : ∃ k, glossaryref02_Of.f k (s.extract 0 (off (sfx (bl s)) u)) = some ((pts (bl s)).take u) := by
  have h1 := bl_len (s.extract 0 (off (sfx (bl s)) u))
  rw [ex_bl, List.length_take, bl_len] at h1
  obtain ⟨k, hk⟩ := of_ref (s.extract 0 (off (sfx (bl s)) u)) (by omega)
  rw [ex_bl, pts_take _ _ hu] at hk
  exact ⟨k, hk⟩
theorem wide_ref (s : ByteArray) (hs : s.size ≤ 1048576) (a : Int) (u : Nat) (hu : IsU (bl s) a u) : ∃ k, glossaryref02_Wide.f k s a = some (wsum ((pts (bl s)).take u)) := by
  obtain ⟨k1, u', hu', hk1⟩ := unit_ref s (by omega) a
  obtain rfl : u' = u := hu'.unique hu
  obtain ⟨k2, hk2⟩ := of_take s hs u' hu.1
  have hle := off_le (bl s) hu.1
  rw [bl_len] at hle
  have hpl := pts_len (bl s)
  rw [bl_len] at hpl
  have hk3 := wide_l0 ((pts (bl s)).take u') (by rw [List.length_take]; omega) (fun x hx => pts_range _ x (List.mem_of_mem_take hx)) ((pts (bl s)).take u').length 0 0 (by omega) (by omega) (by omega)
  rw [List.drop_zero, Int.zero_add] at hk3
  have m1 := le_mono (g := fun k (p : ByteArray × Int) => glossaryref02_Unit.f k p.1 p.2) (fun p k => glossaryref02_Unit.mono p.1 p.2 k) (a := (s, a)) hk1 (k2 + ((pts (bl s)).take u').length + 1)
  have m2 := le_mono (g := fun k (p : ByteArray) => glossaryref02_Of.f k p) (fun p k => glossaryref02_Of.mono p k) (a := s.extract 0 (off (sfx (bl s)) u')) hk2 (k1 + ((pts (bl s)).take u').length + 1)
  have m3 := le_mono (g := fun k (p : Int × List Int × Int) => glossaryref02_Wide.l0 k p.1 p.2.1 p.2.2) (fun p k => glossaryref02_Wide.mono_l k _ _ _) (a := (0, (pts (bl s)).take u', ((0 : Nat) : Int))) hk3 (k1 + k2)
  have e2 : k2 + (k1 + ((pts (bl s)).take u').length + 1) = k1 + (k2 + ((pts (bl s)).take u').length + 1) := by omega
  have e3 : ((pts (bl s)).take u').length + 1 + (k1 + k2) = k1 + (k2 + ((pts (bl s)).take u').length + 1) := by omega
  rw [e2] at m2
  rw [e3] at m3
  refine ⟨k1 + (k2 + ((pts (bl s)).take u').length + 1), ?_⟩
  have c1 : (0 : Int) ≤ (off (sfx (bl s)) u' : Int) := by omega
  have c2 : (off (sfx (bl s)) u' : Int) ≤ (s.size : Int) := by omega
  unfold glossaryref02_Wide.f
  rw [show glossaryref02_Unit.f (k1 + (k2 + ((pts (bl s)).take u').length + 1)) s a = _ from m1, Option.bind_some]
  show (if 0 ≤ (off (sfx (bl s)) u' : Int) then (if (off (sfx (bl s)) u' : Int) ≤ (s.size : Int) then (glossaryref02_Of.f _ (s.extract 0 ((off (sfx (bl s)) u' : Int)).toNat)).bind _ else none) else none) = _
  rw [if_pos c1, if_pos c2, Int.toNat_natCast, m2, Option.bind_some]
  exact m3
theorem line_ref (s : ByteArray) (hs : s.size ≤ 1048576) (a : Int) (u : Nat) (hu : IsU (bl s) a u) : ∃ k, glossaryref02_Line.f k s a = some (lfold 1 1 ((pts (bl s)).take u)) := by
  obtain ⟨k1, u', hu', hk1⟩ := unit_ref s (by omega) a
  obtain rfl : u' = u := hu'.unique hu
  obtain ⟨k2, hk2⟩ := of_take s hs u' hu.1
  have hle := off_le (bl s) hu.1
  rw [bl_len] at hle
  have hpl := pts_len (bl s)
  rw [bl_len] at hpl
  have hk3 := line_l0 ((pts (bl s)).take u') (by rw [List.length_take]; omega) ((pts (bl s)).take u').length 0 1 1 (by omega) (by omega) (by omega) (by omega) (by omega)
  rw [List.drop_zero] at hk3
  have m1 := le_mono (g := fun k (p : ByteArray × Int) => glossaryref02_Unit.f k p.1 p.2) (fun p k => glossaryref02_Unit.mono p.1 p.2 k) (a := (s, a)) hk1 (k2 + ((pts (bl s)).take u').length + 1)
  have m2 := le_mono (g := fun k (p : ByteArray) => glossaryref02_Of.f k p) (fun p k => glossaryref02_Of.mono p k) (a := s.extract 0 (off (sfx (bl s)) u')) hk2 (k1 + ((pts (bl s)).take u').length + 1)
  have m3 := le_mono (g := fun k (p : List Int × Int) => glossaryref02_Line.l0 k 1 1 p.1 p.2) (fun p k => glossaryref02_Line.mono_l k _ _ _ _) (a := ((pts (bl s)).take u', ((0 : Nat) : Int))) hk3 (k1 + k2)
  have e2 : k2 + (k1 + ((pts (bl s)).take u').length + 1) = k1 + (k2 + ((pts (bl s)).take u').length + 1) := by omega
  have e3 : ((pts (bl s)).take u').length + 1 + (k1 + k2) = k1 + (k2 + ((pts (bl s)).take u').length + 1) := by omega
  rw [e2] at m2
  rw [e3] at m3
  refine ⟨k1 + (k2 + ((pts (bl s)).take u').length + 1), ?_⟩
  have c1 : (0 : Int) ≤ (off (sfx (bl s)) u' : Int) := by omega
  have c2 : (off (sfx (bl s)) u' : Int) ≤ (s.size : Int) := by omega
  unfold glossaryref02_Line.f
  rw [show glossaryref02_Unit.f (k1 + (k2 + ((pts (bl s)).take u').length + 1)) s a = _ from m1, Option.bind_some]
  show (if 0 ≤ (off (sfx (bl s)) u' : Int) then (if (off (sfx (bl s)) u' : Int) ≤ (s.size : Int) then (glossaryref02_Of.f _ (s.extract 0 ((off (sfx (bl s)) u' : Int)).toNat)).bind _ else none) else none) = _
  rw [if_pos c1, if_pos c2, Int.toNat_natCast, m2, Option.bind_some]
  exact m3
end Go.Proofs.YtbkimhbpcmbflaaDoor.C
