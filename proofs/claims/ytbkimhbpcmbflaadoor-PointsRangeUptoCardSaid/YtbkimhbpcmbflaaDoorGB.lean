/-
  N1, K6, K7, KP1, joined to one text.
-/
import Derived.Test.YtbkimhbpcmbflaaDoorGA
import Derived.Deep.AppendLies
import Derived.Deep.RegionLaw
import Derived.Deep.QuietTactic
import Derived.BigQuiet
/-
  Places in plain words: where units begin, pairs of bytes, lines; and the document's answers (glossaryref02.Unit, Byte, Wide, Line, as printed) in the same words.
-/
set_option linter.unusedVariables false
set_option linter.unusedSimpArgs false
namespace Go.Proofs.YtbkimhbpcmbflaaDoor.C
open Go Go.RowKit Go.Proofs.YtbkimhbpcmbflaaDoor.M Go.Proofs.YtbkimhbpcmbflaaDoor.E Go.Proofs.YtbkimhbpcmbflaaDoor.PAll Go.Proofs.YtbkimhbpcmbflaaDoorW.PrintWords

/-! ### where units begin -/
def off (us : List (List UInt8)) (i : Nat) : Nat := ((us.take i).map dw).sum
theorem off_zero (us : List (List UInt8)) : off us 0 = 0 := by simp [off]
theorem off_cons (t : List UInt8) (us : List (List UInt8)) (i : Nat) : off (t :: us) (i + 1) = dw t + off us i := by simp [off]
theorem off_succ {us : List (List UInt8)} {i : Nat} {t : List UInt8} (h : us[i]? = some t) : off us (i + 1) = off us i + dw t := by
  unfold off
  rw [List.take_add_one, h]
  simp
theorem sfx_at : ∀ (l : List UInt8) (i : Nat) (t : List UInt8), (sfx l)[i]? = some t → t = l.drop (off (sfx l) i) := by
  intro l
  induction l using sfx_ind with
  | h0 => intro i t h; rw [sfx_nil] at h; simp at h
  | h1 l hne ih =>
    intro i t h
    rw [sfx_cons hne] at h ⊢
    cases i with
    | zero => simp at h; rw [off_zero, List.drop_zero, h]
    | succ i =>
      simp only [List.getElem?_cons_succ] at h
      rw [off_cons, ← List.drop_drop]
      exact ih i t h
theorem off_total : ∀ l : List UInt8, off (sfx l) (sfx l).length = l.length := by
  intro l
  induction l using sfx_ind with
  | h0 => rw [sfx_nil]; rfl
  | h1 l hne ih =>
    rw [sfx_cons hne, List.length_cons, off_cons, ih, List.length_drop]
    have := dw_len hne
    omega
theorem off_step {l : List UInt8} {i : Nat} (h : i < (sfx l).length) : off (sfx l) i < off (sfx l) (i + 1) := by
  have ht : (sfx l)[i]? = some (sfx l)[i] := List.getElem?_eq_getElem h
  have := dw_pos (sfx_ne (List.mem_of_getElem? ht))
  rw [off_succ ht]
  omega
theorem off_lt (l : List UInt8) : ∀ d i, i + d + 1 ≤ (sfx l).length → off (sfx l) i < off (sfx l) (i + d + 1)
  | 0, i, h => off_step (by omega)
  | d + 1, i, h => by
    have h1 := off_lt l d i (by omega)
    have h2 := off_step (l := l) (i := i + d + 1) (by omega)
    rw [show i + (d + 1) + 1 = i + d + 1 + 1 by omega]
    omega
theorem off_mono (l : List UInt8) {i j : Nat} (hij : i ≤ j) (hj : j ≤ (sfx l).length) : off (sfx l) i ≤ off (sfx l) j := by
  rcases Nat.lt_or_ge i j with h | h
  · have := off_lt l (j - i - 1) i (by omega)
    rw [show i + (j - i - 1) + 1 = j by omega] at this
    omega
  · rw [show i = j by omega]; exact Nat.le_refl _
theorem off_le (l : List UInt8) {i : Nat} (hi : i ≤ (sfx l).length) : off (sfx l) i ≤ l.length := by
  have := off_mono l hi (Nat.le_refl _)
  rw [off_total] at this
  exact this
theorem off_ge (l : List UInt8) : ∀ i, i ≤ (sfx l).length → i ≤ off (sfx l) i
  | 0, _ => Nat.zero_le _
  | i + 1, h => by have := off_ge l i (by omega); have := off_step (l := l) (i := i) (by omega); omega

/-- the unit of a number -/
def IsU (l : List UInt8) (at_ : Int) (i : Nat) : Prop := i ≤ (sfx l).length ∧ (i = 0 ∨ (off (sfx l) i : Int) ≤ at_) ∧ (i < (sfx l).length → at_ < (off (sfx l) (i + 1) : Int))
theorem IsU.unique {l : List UInt8} {a : Int} {i j : Nat} (hi : IsU l a i) (hj : IsU l a j) : i = j := by
  rcases Nat.lt_trichotomy i j with h | h | h
  · have h1 := hi.2.2 (by have := hj.1; omega)
    have h2 := off_mono l (show i + 1 ≤ j by omega) hj.1
    rcases hj.2.1 with h3 | h3 <;> omega
  · exact h
  · have h1 := hj.2.2 (by have := hi.1; omega)
    have h2 := off_mono l (show j + 1 ≤ i by omega) hi.1
    rcases hi.2.1 with h3 | h3 <;> omega

/-! ### the beginning of a text, cut at a unit's beginning, has the same units -/
theorem take_dec {t : List UInt8} (h : t ≠ []) {n : Nat} (hn : dw t ≤ n) : dc (t.take n) = dc t ∧ dw (t.take n) = dw t := by
  have hp := dw_pos h
  have hne : t.take n ≠ [] := by
    intro e
    have := congrArg List.length e
    rw [List.length_take] at this
    have hl : 0 < t.length := List.length_pos_iff.2 h
    rw [List.length_nil] at this
    omega
  cases hi : ill t with
  | false =>
    have e1 := take_enc h hi
    have e2 : t.take n = enc (dc t) ++ (t.take n).drop (dw t) := by
      have := List.take_append_drop (dw t) (t.take n)
      rw [List.take_take, Nat.min_eq_left hn, e1] at this
      exact this.symm
    have hw : dw t = (enc (dc t)).length := by
      have h3 := List.take_append_drop (dw t) t
      rw [e1] at h3
      have := dw_enc (okc_dc h) (t.drop (dw t))
      rw [h3] at this
      exact this
    rw [e2, dc_enc (okc_dc h), dw_enc (okc_dc h)]
    exact ⟨rfl, hw.symm⟩
  | true =>
    have hdi : dc t = 65533 ∧ dw t = 1 := by simpa [ill] using hi
    cases hj : ill (t.take n) with
    | true =>
      have hdj : dc (t.take n) = 65533 ∧ dw (t.take n) = 1 := by simpa [ill] using hj
      rw [hdi.1, hdi.2, hdj.1, hdj.2]
      exact ⟨rfl, rfl⟩
    | false =>
      exfalso
      have e1 := take_enc hne hj
      have e2 : t = enc (dc (t.take n)) ++ ((t.take n).drop (dw (t.take n)) ++ t.drop n) := by
        rw [← e1, ← List.append_assoc, List.take_append_drop, List.take_append_drop]
      have k1 := dc_enc (okc_dc hne) ((t.take n).drop (dw (t.take n)) ++ t.drop n)
      have k2 := dw_enc (okc_dc hne) ((t.take n).drop (dw (t.take n)) ++ t.drop n)
      rw [← e2] at k1 k2
      rw [hdi.1] at k1
      rw [hdi.2, ← k1] at k2
      have e3 : (enc 65533).length = 3 := by decide
      rw [e3] at k2
      omega
theorem b0_take {t : List UInt8} {n : Nat} (hn : 1 ≤ n) : b0 (t.take n) = b0 t := by
  unfold b0
  cases t with
  | nil => simp
  | cons a t => cases n with
    | zero => omega
    | succ n => rfl
theorem pt_take {t : List UInt8} (h : t ≠ []) {n : Nat} (hn : dw t ≤ n) : pt (t.take n) = pt t := by
  have h1 := take_dec h hn
  have h2 := b0_take (t := t) (n := n) (by have := dw_pos h; omega)
  unfold pt ill
  rw [h1.1, h1.2, h2]
theorem pts_take : ∀ (l : List UInt8) (i : Nat), i ≤ (sfx l).length → pts (l.take (off (sfx l) i)) = (pts l).take i := by
  intro l
  induction l using sfx_ind with
  | h0 => intro i h; rw [sfx_nil] at h ⊢; simp [pts, sfx_nil]
  | h1 l hne ih =>
    intro i h
    cases i with
    | zero => rw [off_zero]; simp [pts, sfx_nil]
    | succ i =>
      rw [sfx_cons hne, List.length_cons] at h
      have hw := dw_pos hne
      rw [sfx_cons hne, off_cons]
      have hn2 : l.take (dw l + off (sfx (l.drop (dw l))) i) ≠ [] := by
        intro e
        have := congrArg List.length e
        rw [List.length_take] at this
        have hl : 0 < l.length := List.length_pos_iff.2 hne
        rw [List.length_nil] at this
        omega
      have hd := take_dec hne (n := dw l + off (sfx (l.drop (dw l))) i) (by omega)
      rw [pts_cons hn2, pts_cons hne, pt_take hne (by omega), hd.2, List.drop_take, Nat.add_sub_cancel_left, ih i (by omega)]
      rfl

/-! ### more rounds tell the same -/
theorem le_mono {α β : Type} {g : Nat → α → Option β} (hm : ∀ a k, LeO (g k a) (g (k + 1) a)) {a : α} {r : β} {k : Nat} (h : g k a = some r) : ∀ j, g (k + j) a = some r
  | 0 => h
  | j + 1 => hm a (k + j) r (le_mono hm h j)

/-! ### glossaryref02.Unit -/
theorem nextP_in (l : List UInt8) (p : Nat) (h : p < l.length) : nextP l (p : Int) = ((pt (l.drop p) : Int), (dw (l.drop p) : Int)) := by
  have hn : ¬ ((p : Int) < 0 ∨ (l.length : Int) ≤ (p : Int)) := by omega
  unfold nextP
  rw [if_neg hn, Int.toNat_natCast]
theorem nextP_at (s : ByteArray) {i : Nat} (h : i < (sfx (bl s)).length) : ∃ t, (sfx (bl s))[i]? = some t ∧ nextP (bl s) (off (sfx (bl s)) i : Nat) = ((pt t : Int), (dw t : Int)) := by
  obtain ⟨t, ht⟩ : ∃ t, (sfx (bl s))[i]? = some t := ⟨_, List.getElem?_eq_getElem h⟩
  have e := sfx_at _ _ _ ht
  have hlt : off (sfx (bl s)) i < (bl s).length := by
    have h1 := off_step h
    have h2 := off_le (bl s) (i := i + 1) (by omega)
    omega
  have e2 := nextP_in (bl s) _ hlt
  rw [← e] at e2
  exact ⟨t, ht, e2⟩
theorem unit_end (s : ByteArray) (a : Int) (i p k : Nat) (h : s.size ≤ p) : glossaryref02_Unit.l0 (k + 1) s a i p = some ((i : Int), (p : Int)) := by
  have h1 : ¬ ((p : Int) < (s.size : Int)) := by omega
  unfold glossaryref02_Unit.l0
  rw [if_neg h1]
theorem unit_hit (s : ByteArray) (a : Int) (i p d k : Nat) (x : Int) (h : p < s.size) (hs : s.size < 35184372088832) (hd : d ≤ 4) (hn : glossaryref02_Next.f k s p = some (x, (d : Int))) (hc : a < ((p + d : Nat) : Int)) : glossaryref02_Unit.l0 (k + 1) s a i p = some ((i : Int), (p : Int)) := by
  have h1 : (p : Int) < (s.size : Int) := by omega
  have h2 : wrap64 ((p : Int) + (d : Int)) = ((p + d : Nat) : Int) := by rw [w64 (by omega) (by omega)]; omega
  unfold glossaryref02_Unit.l0
  rw [if_pos h1, hn, Option.bind_some, h2, if_pos hc]
theorem unit_next (s : ByteArray) (a : Int) (i p d k : Nat) (x : Int) (h : p < s.size) (hi : i ≤ p) (hs : s.size < 35184372088832) (hd : d ≤ 4) (hn : glossaryref02_Next.f k s p = some (x, (d : Int))) (hc : ¬ a < ((p + d : Nat) : Int)) : glossaryref02_Unit.l0 (k + 1) s a i p = glossaryref02_Unit.l0 k s a ((i + 1 : Nat) : Int) ((p + d : Nat) : Int) := by
  have h1 : (p : Int) < (s.size : Int) := by omega
  have h2 : wrap64 ((p : Int) + (d : Int)) = ((p + d : Nat) : Int) := by rw [w64 (by omega) (by omega)]; omega
  have h3 : wrap64 ((i : Int) + 1) = ((i + 1 : Nat) : Int) := wi i (by omega)
  conv => lhs; unfold glossaryref02_Unit.l0
  rw [if_pos h1, hn, Option.bind_some, h2, if_neg hc, h3]
theorem unit_l0 (s : ByteArray) (hs : s.size < 35184372088832) (a : Int) : ∀ m i : Nat, i + m = (sfx (bl s)).length → (i = 0 ∨ (off (sfx (bl s)) i : Int) ≤ a) →
    ∃ k u, IsU (bl s) a u ∧ glossaryref02_Unit.l0 (k + 12) s a i (off (sfx (bl s)) i) = some ((u : Int), (off (sfx (bl s)) u : Int))
  | 0, i, h, h0 => by
    have e := off_total (bl s)
    rw [bl_len] at e
    have hi : i = (sfx (bl s)).length := by omega
    rw [← hi] at e
    exact ⟨0, i, ⟨by omega, h0, fun hh => by omega⟩, unit_end s a i _ 11 (by omega)⟩
  | m + 1, i, h, h0 => by
    have hi : i < (sfx (bl s)).length := by omega
    obtain ⟨t, ht, hn⟩ := nextP_at s hi
    have hs1 := off_succ ht
    have hle := off_le (bl s) (i := i + 1) (by omega)
    have hst := off_step hi
    rw [bl_len] at hle
    have hil := off_ge (bl s) i (by omega)
    have hd4 : dw t ≤ 4 := by have := d_facts (sfx_ne (List.mem_of_getElem? ht)); omega
    have hf : ∀ k, glossaryref02_Next.f (k + 12) s (off (sfx (bl s)) i : Nat) = some ((pt t : Int), (dw t : Int)) := fun k => (next_ref s (by omega) _ k).trans (congrArg some hn)
    by_cases hc : a < ((off (sfx (bl s)) i + dw t : Nat) : Int)
    · exact ⟨1, i, ⟨by omega, h0, fun _ => by rw [hs1]; exact hc⟩, unit_hit s a i _ (dw t) 12 _ (by omega) hs hd4 (hf 0) hc⟩
    · obtain ⟨k, u, hu, hk⟩ := unit_l0 s hs a m (i + 1) (by omega) (.inr (by rw [hs1]; omega))
      rw [hs1] at hk
      exact ⟨k + 1, u, hu, (unit_next s a i _ (dw t) (k + 12) _ (by omega) hil hs hd4 (hf k) hc).trans hk⟩
theorem unit_ref (s : ByteArray) (hs : s.size < 35184372088832) (a : Int) : ∃ k u, IsU (bl s) a u ∧ glossaryref02_Unit.f k s a = some ((u : Int), (off (sfx (bl s)) u : Int)) := by
  obtain ⟨k, u, hu, hk⟩ := unit_l0 s hs a (sfx (bl s)).length 0 (by omega) (.inl rfl)
  refine ⟨k + 12, u, hu, ?_⟩
  unfold glossaryref02_Unit.f
  rw [off_zero] at hk
  exact hk

/-! ### glossaryref02.Byte -/
def clampN (n : Nat) (u : Int) : Nat := (min u (n : Int)).toNat
theorem byte_stop (s : ByteArray) (u : Int) (i p k : Nat) (h : ¬ (i : Int) < u ∨ s.size ≤ p) : glossaryref02_Byte.l0 (k + 1) s u p i = some (p : Int) := by
  unfold glossaryref02_Byte.l0
  by_cases hc : (i : Int) < u
  · have h1 : ¬ ((p : Int) < (s.size : Int)) := by omega
    rw [if_pos hc, if_neg h1]
  · rw [if_neg hc]
theorem byte_next (s : ByteArray) (u : Int) (i p d k : Nat) (x : Int) (h : p < s.size) (hi : i ≤ p) (hs : s.size < 35184372088832) (hd : d ≤ 4) (hn : glossaryref02_Next.f k s p = some (x, (d : Int))) (hc : (i : Int) < u) : glossaryref02_Byte.l0 (k + 1) s u p i = glossaryref02_Byte.l0 k s u ((p + d : Nat) : Int) ((i + 1 : Nat) : Int) := by
  have h1 : (p : Int) < (s.size : Int) := by omega
  have h2 : wrap64 ((p : Int) + (d : Int)) = ((p + d : Nat) : Int) := by rw [w64 (by omega) (by omega)]; omega
  have h3 : wrap64 ((i : Int) + 1) = ((i + 1 : Nat) : Int) := wi i (by omega)
  conv => lhs; unfold glossaryref02_Byte.l0
  rw [if_pos hc, if_pos h1, hn, Option.bind_some, h2, h3]
theorem byte_l0 (s : ByteArray) (hs : s.size < 35184372088832) (u : Int) : ∀ m i : Nat, i + m = (sfx (bl s)).length → (i : Int) ≤ max u 0 →
    ∃ k, glossaryref02_Byte.l0 (k + 12) s u (off (sfx (bl s)) i) i = some (off (sfx (bl s)) (clampN (sfx (bl s)).length u) : Int)
  | 0, i, h, h0 => by
    have e := off_total (bl s)
    rw [bl_len] at e
    have hi : i = (sfx (bl s)).length := by omega
    rw [← hi] at e
    have ec : clampN (sfx (bl s)).length u = i := by unfold clampN; omega
    rw [ec]
    exact ⟨0, byte_stop s u i _ 11 (.inr (by omega))⟩
  | m + 1, i, h, h0 => by
    have hi : i < (sfx (bl s)).length := by omega
    obtain ⟨t, ht, hn⟩ := nextP_at s hi
    have hs1 := off_succ ht
    have hle := off_le (bl s) (i := i + 1) (by omega)
    have hst := off_step hi
    rw [bl_len] at hle
    have hil := off_ge (bl s) i (by omega)
    have hd4 : dw t ≤ 4 := by have := d_facts (sfx_ne (List.mem_of_getElem? ht)); omega
    have hf : ∀ k, glossaryref02_Next.f (k + 12) s (off (sfx (bl s)) i : Nat) = some ((pt t : Int), (dw t : Int)) := fun k => (next_ref s (by omega) _ k).trans (congrArg some hn)
    by_cases hc : (i : Int) < u
    · obtain ⟨k, hk⟩ := byte_l0 s hs u m (i + 1) (by omega) (by omega)
      rw [hs1] at hk
      exact ⟨k + 1, (byte_next s u i _ (dw t) (k + 12) _ (by omega) hil hs hd4 (hf k) hc).trans hk⟩
    · have ec : clampN (sfx (bl s)).length u = i := by unfold clampN; omega
      rw [ec]
      exact ⟨0, byte_stop s u i _ 11 (.inl hc)⟩
theorem byte_ref (s : ByteArray) (hs : s.size < 35184372088832) (u : Int) : ∃ k, glossaryref02_Byte.f k s u = some (off (sfx (bl s)) (clampN (sfx (bl s)).length u) : Int) := by
  obtain ⟨k, hk⟩ := byte_l0 s hs u (sfx (bl s)).length 0 (by omega) (by omega)
  refine ⟨k + 12, ?_⟩
  unfold glossaryref02_Byte.f
  rw [off_zero] at hk
  exact hk

/-! ### glossaryref02.Wide, Line -/
def wsum : List Int → Int
  | [] => 0
  | x :: xs => (if 65535 < x ∧ x ≤ 1114111 then 2 else 1) + wsum xs
def lfold : Int → Int → List Int → Int × Int
  | a, b, [] => (a, b)
  | a, b, x :: xs => if x = 10 then lfold (a + 1) 1 xs else lfold a (b + 1) xs
theorem wide_l0 (xs : List Int) (hl : xs.length ≤ 1048576) (hx : ∀ x ∈ xs, -2147483648 ≤ x ∧ x ≤ 2147483647) : ∀ (m i : Nat) (z : Int), i + m = xs.length → 0 ≤ z → z ≤ 2 * i → glossaryref02_Wide.l0 (m + 1) z xs i = some (z + wsum (xs.drop i))
  | 0, i, z, h, h0, h1 => by
    have hi : ¬ ((i : Int) < (xs.length : Int)) := by omega
    unfold glossaryref02_Wide.l0
    rw [if_neg hi, List.drop_of_length_le (by omega)]
    simp [wsum]
  | m + 1, i, z, h, h0, h1 => by
    have hi : (i : Int) < (xs.length : Int) := by omega
    have hi0 : (0 : Int) ≤ i := by omega
    obtain ⟨x, hxi⟩ : ∃ x, xs[i]? = some x := ⟨_, List.getElem?_eq_getElem (show i < xs.length by omega)⟩
    have hr := hx x (List.mem_of_getElem? hxi)
    have hd : xs.drop i = x :: xs.drop (i + 1) := by
      have := List.drop_eq_getElem_cons (l := xs) (i := i) (by omega)
      rw [this]
      rw [List.getElem?_eq_getElem (show i < xs.length by omega)] at hxi
      rw [Option.some.inj hxi]
    have hw : wrap64 (rd xs (i : Int)) = x := by rw [rd_some hxi, w64 (by omega) (by omega)]
    have h3 : wrap64 ((i : Int) + 1) = ((i + 1 : Nat) : Int) := wi i (by omega)
    have h4 : wrap64 (z + 1) = z + 1 := w64 (by omega) (by omega)
    have h5 : wrap64 (z + 1 + 1) = z + 2 := by rw [w64 (by omega) (by omega)]; omega
    conv => lhs; unfold glossaryref02_Wide.l0
    rw [if_pos hi, if_pos hi0, hw, h3, h4, h5, hd, wsum]
    by_cases c1 : x > 65535
    · rw [if_pos c1]
      by_cases c2 : x ≤ 1114111
      · rw [if_pos c2, if_pos ⟨c1, c2⟩, wide_l0 xs hl hx m (i + 1) (z + 2) (by omega) (by omega) (by omega)]
        congr 1; omega
      · rw [if_neg c2, if_neg (fun hh => c2 hh.2), wide_l0 xs hl hx m (i + 1) (z + 1) (by omega) (by omega) (by omega)]
        congr 1; omega
    · rw [if_neg c1, if_neg (fun hh => c1 hh.1), wide_l0 xs hl hx m (i + 1) (z + 1) (by omega) (by omega) (by omega)]
      congr 1; omega
theorem line_l0 (xs : List Int) (hl : xs.length ≤ 1048576) : ∀ (m i : Nat) (a b : Int), i + m = xs.length → 0 ≤ a → a ≤ i + 1 → 0 ≤ b → b ≤ i + 1 → glossaryref02_Line.l0 (m + 1) a b xs i = some (lfold a b (xs.drop i))
  | 0, i, a, b, h, h0, h1, h2, h3 => by
    have hi : ¬ ((i : Int) < (xs.length : Int)) := by omega
    unfold glossaryref02_Line.l0
    rw [if_neg hi, List.drop_of_length_le (by omega)]
    simp [lfold]
  | m + 1, i, a, b, h, h0, h1, h2, h3 => by
    have hi : (i : Int) < (xs.length : Int) := by omega
    have hi0 : (0 : Int) ≤ i := by omega
    obtain ⟨x, hxi⟩ : ∃ x, xs[i]? = some x := ⟨_, List.getElem?_eq_getElem (show i < xs.length by omega)⟩
    have hd : xs.drop i = x :: xs.drop (i + 1) := by
      have := List.drop_eq_getElem_cons (l := xs) (i := i) (by omega)
      rw [this]
      rw [List.getElem?_eq_getElem (show i < xs.length by omega)] at hxi
      rw [Option.some.inj hxi]
    have h4 : wrap64 ((i : Int) + 1) = ((i + 1 : Nat) : Int) := wi i (by omega)
    have h5 : wrap64 (a + 1) = a + 1 := w64 (by omega) (by omega)
    have h6 : wrap64 (b + 1) = b + 1 := w64 (by omega) (by omega)
    conv => lhs; unfold glossaryref02_Line.l0
    rw [if_pos hi, if_pos hi0, rd_some hxi, h4, h5, h6, hd, lfold]
    by_cases c1 : x = 10
    · rw [if_pos c1, if_pos c1, line_l0 xs hl m (i + 1) (a + 1) 1 (by omega) (by omega) (by omega) (by omega) (by omega)]
    · rw [if_neg c1, if_neg c1, line_l0 xs hl m (i + 1) a (b + 1) (by omega) (by omega) (by omega) (by omega) (by omega)]
theorem ex_bl (s : ByteArray) (n : Nat) : bl (s.extract 0 n) = (bl s).take n := by unfold bl; simp
theorem of_take (s : ByteArray) (hs : s.size ≤ 1048576) (u : Nat) (hu : u ≤ (sfx (bl s)).length) : ∃ k, glossaryref02_Of.f k (s.extract 0 (off (sfx (bl s)) u)) = some ((pts (bl s)).take u) := by
  have h1 := bl_len (s.extract 0 (off (sfx (bl s)) u))
  rw [ex_bl, List.length_take, bl_len] at h1
  obtain ⟨k, hk⟩ := of_ref (s.extract 0 (off (sfx (bl s)) u)) (by omega)
  rw [ex_bl, pts_take _ _ hu] at hk
  exact ⟨k, hk⟩
theorem wide_ref (s : ByteArray) (hs : s.size ≤ 1048576) (a : Int) (u : Nat) (hu : IsU (bl s) a u) : ∃ k, glossaryref02_Wide.f k s a = some (wsum ((pts (bl s)).take u)) := by
  obtain ⟨k1, u', hu', hk1⟩ := unit_ref s (by omega) a
  obtain rfl : u' = u := hu'.unique hu
  obtain ⟨k2, hk2⟩ := of_take s hs u' hu.1
  have hle := off_le (bl s) hu.1
  rw [bl_len] at hle
  have hpl := pts_len (bl s)
  rw [bl_len] at hpl
  have hk3 := wide_l0 ((pts (bl s)).take u') (by rw [List.length_take]; omega) (fun x hx => pts_range _ x (List.mem_of_mem_take hx)) ((pts (bl s)).take u').length 0 0 (by omega) (by omega) (by omega)
  rw [List.drop_zero, Int.zero_add] at hk3
  have m1 := le_mono (g := fun k (p : ByteArray × Int) => glossaryref02_Unit.f k p.1 p.2) (fun p k => glossaryref02_Unit.mono p.1 p.2 k) (a := (s, a)) hk1 (k2 + ((pts (bl s)).take u').length + 1)
  have m2 := le_mono (g := fun k (p : ByteArray) => glossaryref02_Of.f k p) (fun p k => glossaryref02_Of.mono p k) (a := s.extract 0 (off (sfx (bl s)) u')) hk2 (k1 + ((pts (bl s)).take u').length + 1)
  have m3 := le_mono (g := fun k (p : Int × List Int × Int) => glossaryref02_Wide.l0 k p.1 p.2.1 p.2.2) (fun p k => glossaryref02_Wide.mono_l k _ _ _) (a := (0, (pts (bl s)).take u', ((0 : Nat) : Int))) hk3 (k1 + k2)
  have e2 : k2 + (k1 + ((pts (bl s)).take u').length + 1) = k1 + (k2 + ((pts (bl s)).take u').length + 1) := by omega
  have e3 : ((pts (bl s)).take u').length + 1 + (k1 + k2) = k1 + (k2 + ((pts (bl s)).take u').length + 1) := by omega
  rw [e2] at m2
  rw [e3] at m3
  refine ⟨k1 + (k2 + ((pts (bl s)).take u').length + 1), ?_⟩
  have c1 : (0 : Int) ≤ (off (sfx (bl s)) u' : Int) := by omega
  have c2 : (off (sfx (bl s)) u' : Int) ≤ (s.size : Int) := by omega
  unfold glossaryref02_Wide.f
  rw [show glossaryref02_Unit.f (k1 + (k2 + ((pts (bl s)).take u').length + 1)) s a = _ from m1, Option.bind_some]
  show (if 0 ≤ (off (sfx (bl s)) u' : Int) then (if (off (sfx (bl s)) u' : Int) ≤ (s.size : Int) then (glossaryref02_Of.f _ (s.extract 0 ((off (sfx (bl s)) u' : Int)).toNat)).bind _ else none) else none) = _
  rw [if_pos c1, if_pos c2, Int.toNat_natCast, m2, Option.bind_some]
  exact m3
theorem line_ref (s : ByteArray) (hs : s.size ≤ 1048576) (a : Int) (u : Nat) (hu : IsU (bl s) a u) : ∃ k, glossaryref02_Line.f k s a = some (lfold 1 1 ((pts (bl s)).take u)) := by
  obtain ⟨k1, u', hu', hk1⟩ := unit_ref s (by omega) a
  obtain rfl : u' = u := hu'.unique hu
  obtain ⟨k2, hk2⟩ := of_take s hs u' hu.1
  have hle := off_le (bl s) hu.1
  rw [bl_len] at hle
  have hpl := pts_len (bl s)
  rw [bl_len] at hpl
  have hk3 := line_l0 ((pts (bl s)).take u') (by rw [List.length_take]; omega) ((pts (bl s)).take u').length 0 1 1 (by omega) (by omega) (by omega) (by omega) (by omega)
  rw [List.drop_zero] at hk3
  have m1 := le_mono (g := fun k (p : ByteArray × Int) => glossaryref02_Unit.f k p.1 p.2) (fun p k => glossaryref02_Unit.mono p.1 p.2 k) (a := (s, a)) hk1 (k2 + ((pts (bl s)).take u').length + 1)
  have m2 := le_mono (g := fun k (p : ByteArray) => glossaryref02_Of.f k p) (fun p k => glossaryref02_Of.mono p k) (a := s.extract 0 (off (sfx (bl s)) u')) hk2 (k1 + ((pts (bl s)).take u').length + 1)
  have m3 := le_mono (g := fun k (p : List Int × Int) => glossaryref02_Line.l0 k 1 1 p.1 p.2) (fun p k => glossaryref02_Line.mono_l k _ _ _ _) (a := ((pts (bl s)).take u', ((0 : Nat) : Int))) hk3 (k1 + k2)
  have e2 : k2 + (k1 + ((pts (bl s)).take u').length + 1) = k1 + (k2 + ((pts (bl s)).take u').length + 1) := by omega
  have e3 : ((pts (bl s)).take u').length + 1 + (k1 + k2) = k1 + (k2 + ((pts (bl s)).take u').length + 1) := by omega
  rw [e2] at m2
  rw [e3] at m3
  refine ⟨k1 + (k2 + ((pts (bl s)).take u').length + 1), ?_⟩
  have c1 : (0 : Int) ≤ (off (sfx (bl s)) u' : Int) := by omega
  have c2 : (off (sfx (bl s)) u' : Int) ≤ (s.size : Int) := by omega
  unfold glossaryref02_Line.f
  rw [show glossaryref02_Unit.f (k1 + (k2 + ((pts (bl s)).take u').length + 1)) s a = _ from m1, Option.bind_some]
  show (if 0 ≤ (off (sfx (bl s)) u' : Int) then (if (off (sfx (bl s)) u' : Int) ≤ (s.size : Int) then (glossaryref02_Of.f _ (s.extract 0 ((off (sfx (bl s)) u' : Int)).toNat)).bind _ else none) else none) = _
  rw [if_pos c1, if_pos c2, Int.toNat_natCast, m2, Option.bind_some]
  exact m3
end Go.Proofs.YtbkimhbpcmbflaaDoor.C

/-
  points.Measure: what stands ahead of each unit, in a row of its own.
-/
set_option linter.unusedVariables false
set_option linter.unusedSimpArgs false
namespace Go.Proofs.YtbkimhbpcmbflaaDoor.C
open Go Go.RowKit Go.Proofs.YtbkimhbpcmbflaaDoor.M Go.Proofs.YtbkimhbpcmbflaaDoor.E Go.Proofs.YtbkimhbpcmbflaaDoor.PAll Go.Proofs.YtbkimhbpcmbflaaDoorW.PrintWords

/-- bytes, pairs of bytes, ends of lines, units ahead of its line -/
structure Q where
  b : Int
  wd : Int
  ln : Int
  st : Int
def Q.cells (q : Q) : List Value := [.int .i64 q.b, .int .i64 q.wd, .int .i64 q.ln, .int .i64 q.st]
def stepQ (k : Nat) (q : Q) (t : List UInt8) : Q :=
  ⟨q.b + (dw t : Nat), q.wd + (if 65535 < (pt t : Int) ∧ (pt t : Int) ≤ 1114111 then 2 else 1), if (pt t : Int) = 10 then q.ln + 1 else q.ln, if (pt t : Int) = 10 then ((k + 1 : Nat) : Int) else q.st⟩
def accQ (us : List (List UInt8)) : List Q × Q := us.foldl (fun a t => (a.1 ++ [a.2], stepQ a.1.length a.2 t)) ([], ⟨0, 0, 0, 0⟩)
theorem accQ_nil : accQ [] = ([], ⟨0, 0, 0, 0⟩) := rfl
theorem accQ_snoc (us : List (List UInt8)) (t : List UInt8) : accQ (us ++ [t]) = ((accQ us).1 ++ [(accQ us).2], stepQ (accQ us).1.length (accQ us).2 t) := by
  unfold accQ; rw [List.foldl_append]; rfl
theorem snoc_ind {α : Type} {P : List α → Prop} (h0 : P []) (h1 : ∀ l x, P l → P (l ++ [x])) (l : List α) : P l := by
  have : ∀ r : List α, P r.reverse := fun r => by
    induction r with
    | nil => exact h0
    | cons x r ih => rw [List.reverse_cons]; exact h1 _ _ ih
  have := this l.reverse
  rwa [List.reverse_reverse] at this
theorem accQ_len (us : List (List UInt8)) : (accQ us).1.length = us.length := by
  induction us using snoc_ind with
  | h0 => rfl
  | h1 us t ih => rw [accQ_snoc]; simp [ih]
theorem accQ_get (us : List (List UInt8)) : ∀ i, i ≤ us.length → ((accQ us).1 ++ [(accQ us).2])[i]? = some (accQ (us.take i)).2 := by
  induction us using snoc_ind with
  | h0 => intro i h; obtain rfl : i = 0 := by simpa using h
          rfl
  | h1 us t ih =>
    intro i h
    rw [List.length_append, List.length_singleton] at h
    by_cases hi : i ≤ us.length
    · have := ih i hi
      rw [accQ_snoc]
      rw [List.getElem?_append_left (by rw [List.length_append, accQ_len, List.length_singleton]; omega), this, List.take_append_of_le_length hi]
    · obtain rfl : i = us.length + 1 := by omega
      rw [List.take_of_length_le (by simp), List.getElem?_append_right (by rw [accQ_len]; simp), accQ_len]
      simp
def qpts (us : List (List UInt8)) : List Int := us.map fun t => (pt t : Int)
theorem wsum_append (a b : List Int) : wsum (a ++ b) = wsum a + wsum b := by
  induction a with
  | nil => simp [wsum]
  | cons x a ih => rw [List.cons_append, wsum, wsum, ih]; omega
theorem lfold_snoc : ∀ (xs : List Int) (a b x : Int), lfold a b (xs ++ [x]) = if x = 10 then ((lfold a b xs).1 + 1, 1) else ((lfold a b xs).1, (lfold a b xs).2 + 1)
  | [], a, b, x => rfl
  | y :: xs, a, b, x => by
    rw [List.cons_append, lfold, lfold]
    split
    · exact lfold_snoc xs _ _ x
    · exact lfold_snoc xs _ _ x
theorem accQ_what (us : List (List UInt8)) : (accQ us).2.b = ((us.map dw).sum : Nat) ∧ (accQ us).2.wd = wsum (qpts us) ∧ lfold 1 1 (qpts us) = ((accQ us).2.ln + 1, (us.length : Int) - (accQ us).2.st + 1) := by
  induction us using snoc_ind with
  | h0 => exact ⟨rfl, rfl, rfl⟩
  | h1 us t ih =>
    obtain ⟨h1, h2, h3⟩ := ih
    have hl := accQ_len us
    have e : qpts (us ++ [t]) = qpts us ++ [(pt t : Int)] := by simp [qpts]
    rw [accQ_snoc, e]
    refine ⟨?_, ?_, ?_⟩
    · show (accQ us).2.b + (dw t : Nat) = _
      rw [h1]; simp
    · show (accQ us).2.wd + _ = _
      rw [h2, wsum_append, wsum, wsum]; omega
    · rw [lfold_snoc, h3, hl]
      by_cases hc : (pt t : Int) = 10
      · rw [if_pos hc]
        simp only [stepQ, if_pos hc, List.length_append, List.length_singleton]
        congr 1
        omega
      · rw [if_neg hc]
        simp only [stepQ, if_neg hc, List.length_append, List.length_singleton]
        congr 1
        omega
theorem accQ_bounds (us : List (List UInt8)) : 0 ≤ (accQ us).2.wd ∧ (accQ us).2.wd ≤ 2 * us.length ∧ 0 ≤ (accQ us).2.ln ∧ (accQ us).2.ln ≤ us.length ∧ 0 ≤ (accQ us).2.st ∧ (accQ us).2.st ≤ us.length := by
  induction us using snoc_ind with
  | h0 => exact ⟨by decide, by decide, by decide, by decide, by decide, by decide⟩
  | h1 us t ih =>
    obtain ⟨h1, h2, h3, h4, h5, h6⟩ := ih
    have hl := accQ_len us
    rw [accQ_snoc]
    simp only [stepQ, List.length_append, List.length_singleton, hl]
    refine ⟨?_, ?_, ?_, ?_, ?_, ?_⟩
    all_goals
      repeat' split
      all_goals omega

theorem below_set {B : Nat} {a w : World} (h : Below B a w) (i : Nat) (u : Value) : Below B a (w.setCell ⟨B, i, none⟩ u) := h.setCell (p := ⟨B, i, none⟩) (Nat.le_refl _) u
theorem off_snoc (pre : List (List UInt8)) (t : List UInt8) : off (pre ++ [t]) (pre ++ [t]).length = off pre pre.length + dw t := by
  unfold off; rw [List.take_length, List.take_length]; simp
def flat (qs : List Q) : List Value := qs.flatMap Q.cells
theorem flat_snoc (qs : List Q) (q : Q) : flat (qs ++ [q]) = flat qs ++ q.cells := by simp [flat]
theorem Tryd.infoSum : (Tryd.prog.info? 99).map (fun i => (i.zero, i.size, i.bytes)) = some (some (.agg #[.int .i64 0, .int .i64 0, .int .i64 0, .int .i64 0]), 4, 32) := by kernel_rfl

theorem now_cells (pre : List (List UInt8)) : (accQ pre).2.cells = [.int .i64 (off pre pre.length : Nat), .int .i64 (accQ pre).2.wd, .int .i64 (accQ pre).2.ln, .int .i64 (accQ pre).2.st] := by
  unfold Q.cells
  rw [(accQ_what pre).1]
  unfold off
  rw [List.take_length]
set_option maxHeartbeats 4000000 in
set_option maxRecDepth 1000000 in
theorem measure_any (s : ByteArray) (w : World) (hT : Lib.Utf8Tabs 0 1 w) (hs : s.size ≤ 1048576) :
    Calls Tryd.prog 51 #[.string s] w fun e w' => e = .returned (.pointer (some ⟨w.heap.size + 1, 0, none⟩)) ∧ Below w.heap.size w w' ∧
      ∃ v, w'.heap[w.heap.size + 1]? = some (.cells #[v] 102 (0, 0)) ∧ w'.ownsRow (w.heap.size + 2) 99 4 v ((sfx (bl s)).length + 1) (flat ((accQ (sfx (bl s))).1 ++ [(accQ (sfx (bl s))).2])) := by
  obtain ⟨i0, hi, hz0, hz1, hz2⟩ := info_parts Tryd.infoSum
  go_enter Tryd.func51, Tryd.ntmps51
  go_wp2
  go_loopw [] (fun wr => ∃ (pre : List (List UInt8)) (v : Value), Hid (sfx (bl s) = pre ++ sfx ((bl s).drop (off pre pre.length))) ∧ off pre pre.length ≤ s.size ∧ pre.length ≤ off pre pre.length ∧
      wr.heap[w.heap.size]? = some (.cells #[.int .i64 (off pre pre.length : Nat), .int .i64 (accQ pre).2.wd, .int .i64 (accQ pre).2.ln, .int .i64 (accQ pre).2.st] 99 (0, 0)) ∧
      wr.heap[w.heap.size + 1]? = some (.cells #[v] 102 (0, 0)) ∧ Hid (wr.ownsRow (w.heap.size + 2) 99 4 v pre.length (flat (accQ pre).1)) ∧ Below w.heap.size w wr)
    (fun wr => s.size - (match wr.cell? ⟨w.heap.size, 0, none⟩ with | some (.int _ n) => n.toNat | _ => 0))
  case atStart =>
    have h1 := heap_alloc_new w (.cells #[.int .i64 0, .int .i64 0, .int .i64 0, .int .i64 0] 99)
    have h2 := heap_alloc_new (w.alloc (.cells #[.int .i64 0, .int .i64 0, .int .i64 0, .int .i64 0] 99)) (.cells #[.slice none 0 0] 102)
    refine ⟨[], .slice none 0 0, by simp [Hid, off], by simp [off], by simp [off], ?_, ?_, World.ownsRow_nil _ _ _ _, ?_⟩
    · exact (Below.heap_alloc (w.alloc (.cells #[.int .i64 0, .int .i64 0, .int .i64 0, .int .i64 0] 99)) _ w.heap.size (by simp)).trans h1
    · simpa using h2
    · exact ((Below.refl _ w).alloc (Nat.le_refl _) _).alloc (by simp) _
  case round =>
    obtain ⟨pre, v, hpre, hps, hpl, hnow, hp, hown, hbw⟩ := hrel
    have k0 : wr.cell? ⟨w.heap.size, 0, none⟩ = some (.int .i64 (off pre pre.length : Nat)) := cell_of_row _ _ _ _ _ _ hnow
    have k1 : wr.cell? ⟨w.heap.size, 1, none⟩ = some (.int .i64 (accQ pre).2.wd) := cell_of_row _ _ _ _ _ _ hnow
    have k2 : wr.cell? ⟨w.heap.size, 2, none⟩ = some (.int .i64 (accQ pre).2.ln) := cell_of_row _ _ _ _ _ _ hnow
    have k3 : wr.cell? ⟨w.heap.size, 3, none⟩ = some (.int .i64 (accQ pre).2.st) := cell_of_row _ _ _ _ _ _ hnow
    have kp : wr.cell? ⟨w.heap.size + 1, 0, none⟩ = some v := cell_of_row _ _ _ _ _ _ hp
    have hsz1 : w.heap.size + 1 < wr.heap.size := (Array.getElem?_eq_some_iff.1 hp).1
    have kpX : ((wr.alloc (.cells #[.int .i64 (off pre pre.length : Nat), .int .i64 (accQ pre).2.wd, .int .i64 (accQ pre).2.ln, .int .i64 (accQ pre).2.st] 99)).drew).cell? ⟨w.heap.size + 1, 0, none⟩ = some v :=
      (World.cell?_alloc_lt _ _ ⟨w.heap.size + 1, 0, none⟩ hsz1).trans kp
    have HownX : Hid (((wr.alloc (.cells #[.int .i64 (off pre pre.length : Nat), .int .i64 (accQ pre).2.wd, .int .i64 (accQ pre).2.ln, .int .i64 (accQ pre).2.st] 99)).drew).ownsRow (w.heap.size + 2) 99 4 v pre.length (flat (accQ pre).1)) :=
      hown.out.alloc _
    have hblkX := heap_alloc_new wr (.cells #[.int .i64 (off pre pre.length : Nat), .int .i64 (accQ pre).2.wd, .int .i64 (accQ pre).2.ln, .int .i64 (accQ pre).2.st] 99)
    have Hnews : Hid (∀ j u, (accQ pre).2.cells[j]? = some u → ((wr.alloc (.cells #[.int .i64 (off pre pre.length : Nat), .int .i64 (accQ pre).2.wd, .int .i64 (accQ pre).2.ln, .int .i64 (accQ pre).2.st] 99)).drew).cell? ((⟨wr.heap.size, 0, none⟩ : Addr).add j) = some u) := fun j u hj => by
      have ea : (⟨wr.heap.size, 0, none⟩ : Addr).add j = ⟨wr.heap.size, j, none⟩ := by unfold Addr.add; split <;> simp_all
      rw [ea]
      refine Eq.trans (cell_of_row _ _ _ _ _ _ hblkX) ?_
      rw [now_cells] at hj
      rw [← Array.getElem?_toList]
      exact hj
    have hlen : pre.length ≤ 1048576 := by omega
    have hstep : ∀ w1 : World, ((wr.alloc (.cells #[.int .i64 (off pre pre.length : Nat), .int .i64 (accQ pre).2.wd, .int .i64 (accQ pre).2.ln, .int .i64 (accQ pre).2.st] 99)).drew).grownBy w1 v.ownBlock → w1.heap[w.heap.size + 1]? = some (.cells #[v] 102 (0, 0)) ∧ w1.heap[w.heap.size]? = some (.cells #[.int .i64 (off pre pre.length : Nat), .int .i64 (accQ pre).2.wd, .int .i64 (accQ pre).2.ln, .int .i64 (accQ pre).2.st] 99 (0, 0)) ∧
        w1.cell? ⟨w.heap.size + 1, 0, none⟩ = some v ∧ w1.frozen? ⟨w.heap.size + 1, 0, none⟩ = false ∧ Below w.heap.size w w1 := fun w1 hg => by
      have hne : ∀ k, k < w.heap.size + 2 → some k ≠ v.ownBlock := fun k hk e => by have := own_base hown.out k e.symm; omega
      have e1 := (hg.block (w.heap.size + 1) (by simp; omega) (hne _ (by omega))).trans ((Below.heap_alloc wr (.cells #[.int .i64 (off pre pre.length : Nat), .int .i64 (accQ pre).2.wd, .int .i64 (accQ pre).2.ln, .int .i64 (accQ pre).2.st] 99) (w.heap.size + 1) hsz1).trans hp)
      have e2 := (hg.block w.heap.size (by simp; omega) (hne _ (by omega))).trans ((Below.heap_alloc wr (.cells #[.int .i64 (off pre pre.length : Nat), .int .i64 (accQ pre).2.wd, .int .i64 (accQ pre).2.ln, .int .i64 (accQ pre).2.st] 99) w.heap.size (by omega)).trans hnow)
      exact ⟨e1, e2, cell_of_row _ _ _ _ _ _ e1, frozen_cells e1 0, ((hbw.alloc (by omega) _).drew).grown hg (by simp; omega) (fun k hk => by have := own_base hown.out k hk; omega)⟩
    by_cases hlt : off pre pre.length < s.size
    · obtain ⟨t, ht⟩ : ∃ t, (bl s).drop (off pre pre.length) = t := ⟨_, rfl⟩
      have hne : t ≠ [] := by rw [← ht]; exact bl_nonempty hlt
      have hw1 := dw_pos hne
      have hw2 := dw_len hne
      have hw4 : dw t ≤ 4 := (d_facts hne).2.1
      obtain ⟨a1, a2, a3, a4, a5, a6⟩ := accQ_bounds pre
      have hpl2 : off pre pre.length + dw t ≤ s.size := by
        have := bl_len s
        rw [← ht, List.length_drop] at hw2
        rw [← ht]
        omega
      have e0 := off_snoc pre t
      have el : (pre ++ [t]).length = pre.length + 1 := by simp
      have hpre2 : Hid (sfx (bl s) = (pre ++ [t]) ++ sfx ((bl s).drop (off (pre ++ [t]) (pre ++ [t]).length))) := by
        show sfx (bl s) = _
        rw [e0, ← List.drop_drop, ht, hpre.out, ht, sfx_cons hne]
        simp
      obtain ⟨x, hx⟩ : ∃ x, (pt t : Int) = x := ⟨_, rfl⟩
      have hx0 : 0 ≤ x ∧ x ≤ 1114367 := by
        have f := d_facts hne
        have := dc_lt t
        rw [← hx]
        unfold pt
        split
        · rename_i hh; have := ill_b0 hne hh; omega
        · omega
      have c5 : ∀ W, Lib.Utf8Tabs 0 1 W → Calls Tryd.prog 49 #[.string s, .int .i64 (off pre pre.length : Nat)] W fun e w' => e = .returned (.tuple #[.int .i32 x, .int .i64 (dw t : Nat)]) ∧ Below W.heap.size W w' := fun W h => by
        have := next_any s (off pre pre.length : Nat) W h (by omega)
        rw [nextP_in _ _ (by rw [bl_len]; exact hlt), ht, hx] at this
        exact this
      go_wp2_with fail
      go_region_law (refine step_append_lies _ rfl (.tmp 18) (.tmp 20) 100 rfl (w.heap.size + 2) 99 i0 (.agg #[.int .i64 0, .int .i64 0, .int .i64 0, .int .i64 0]) 4 32 Tryd.underlying100 hi hz0 hz1 hz2 rfl (by decide) v pre.length (flat (accQ pre).1) (by simp [Act.eval, Act.put]) HownX.out ⟨wr.heap.size, 0, none⟩ 1 1 (accQ pre).2.cells (by simp [Act.eval, Act.put]) rfl Hnews.out (by intro u hu; rw [now_cells] at hu; simp at hu; rcases hu with rfl | rfl | rfl | rfl <;> rfl) (by decide) (by unfold maxLen; omega) (by omega) (by simp; omega) _ rfl ?_; intro g cap w1 hown1 hgrow1 hat hlt1; obtain ⟨p1, n1, kp1, fz1, hb1⟩ := hstep w1 hgrow1; have Hown1 := Lib.hid hown1; clear hown1)
      all_goals
        have hbk2 := frozen_cells p1 0
        have p2 := cell_modify p1 0 (.slice (some ⟨g, 0, none⟩) (pre.length + 1) cap)
        have n2 : (w1.setCell ⟨w.heap.size + 1, 0, none⟩ (.slice (some ⟨g, 0, none⟩) (pre.length + 1) cap)).heap[w.heap.size]? = _ := (Below.heap_setCell w1 ⟨w.heap.size + 1, 0, none⟩ _ w.heap.size (by show w.heap.size ≠ w.heap.size + 1; omega)).trans n1
        have hg2 := own_base Hown1.out g (by simp [Value.ownBlock])
        have Hown2 : Hid ((w1.setCell ⟨w.heap.size + 1, 0, none⟩ (.slice (some ⟨g, 0, none⟩) (pre.length + 1) cap)).ownsRow (w.heap.size + 2) 99 4 (.slice (some ⟨g, 0, none⟩) (pre.length + 1) cap) (pre.length + 1) (flat (accQ pre).1 ++ (accQ pre).2.cells)) :=
          own_move Hown1.out (fun k hk => Below.heap_setCell w1 ⟨w.heap.size + 1, 0, none⟩ _ k (by have := own_base Hown1.out k hk; show k ≠ w.heap.size + 1; omega))
        have hb2 : Below w.heap.size w (w1.setCell ⟨w.heap.size + 1, 0, none⟩ (.slice (some ⟨g, 0, none⟩) (pre.length + 1) cap)) := hb1.setCell (p := ⟨w.heap.size + 1, 0, none⟩) (by show w.heap.size ≤ w.heap.size + 1; omega) _
        have p2' : (w1.setCell ⟨w.heap.size + 1, 0, none⟩ (.slice (some ⟨g, 0, none⟩) (pre.length + 1) cap)).heap[w.heap.size + 1]? = some (.cells #[.slice (some ⟨g, 0, none⟩) (pre.length + 1) cap] 102 (0, 0)) := p2
        generalize w1.setCell ⟨w.heap.size + 1, 0, none⟩ (.slice (some ⟨g, 0, none⟩) (pre.length + 1) cap) = w2 at n2 Hown2 hb2 p2' ⊢
        have Kk0 := Lib.hid k0
        clear p2 p1 n1 kp1 fz1 hb1 Hown1 hgrow1 hat hlt1 HownX Hnews hstep hblkX kpX k0 k1 k2 k3 kp hown hnow hp hbk2
        have k0 : w2.cell? ⟨w.heap.size, 0, none⟩ = some (.int .i64 (off pre pre.length : Nat)) := cell_of_row _ _ _ _ _ _ n2
        go_wp2_with fail
        refine (c5 w2 (tabs_below hT hb2 (Nat.le_refl _))).mono ?_
        rintro e w3 ⟨rfl, hb3⟩
        have hlw2 : w.heap.size + 1 < w2.heap.size := (Array.getElem?_eq_some_iff.1 p2').1
        have n3 := (hb3.block _ (by omega)).trans n2
        have p3 := (hb3.block _ (by omega)).trans p2'
        have Hown3 : Hid (w3.ownsRow _ _ _ _ _ _) := own_move Hown2.out (fun k hk => hb3.block k (by have := (Hown2.out.lt k hk).2; omega))
        have hbw3 := hb2.trans (hb3.mono hb2.size)
        have j0 : w3.cell? ⟨w.heap.size, 0, none⟩ = some (.int .i64 (off pre pre.length : Nat)) := cell_of_row _ _ _ _ _ _ n3
        have j1 : w3.cell? ⟨w.heap.size, 1, none⟩ = some (.int .i64 (accQ pre).2.wd) := cell_of_row _ _ _ _ _ _ n3
        have j2 : w3.cell? ⟨w.heap.size, 2, none⟩ = some (.int .i64 (accQ pre).2.ln) := cell_of_row _ _ _ _ _ _ n3
        have j3 : w3.cell? ⟨w.heap.size, 3, none⟩ = some (.int .i64 (accQ pre).2.st) := cell_of_row _ _ _ _ _ _ n3
        have jp : w3.cell? ⟨w.heap.size + 1, 0, none⟩ = some (.slice (some ⟨g, 0, none⟩) (pre.length + 1) cap) := cell_of_row _ _ _ _ _ _ p3
        have f0 := frozen_cells n3 0
        have f1 := frozen_cells n3 1
        have f2 := frozen_cells n3 2
        have f3 := frozen_cells n3 3
        clear n2 p2' Hown2 hb2 c5 hi hz0 hz1 hz2
        have hq : (accQ (pre ++ [t])).2 = stepQ (accQ pre).1.length (accQ pre).2 t := by rw [accQ_snoc]
        have hal := accQ_len pre
        have key : ∀ W : World, W.cell? ⟨w.heap.size, 0, none⟩ = some (.int .i64 ((off pre pre.length : Int) + (dw t : Int))) → (s.size - (match W.cell? ⟨w.heap.size, 0, none⟩ with | some (.int _ n) => n.toNat | _ => 0)) < s.size - (match wr.cell? ⟨w.heap.size, 0, none⟩ with | some (.int _ n) => n.toNat | _ => 0) := fun W h => by
          have et : ((off pre pre.length : Int) + (dw t : Int)).toNat = off pre pre.length + dw t := by omega
          rw [h, Kk0.out]
          show s.size - ((off pre pre.length : Int) + (dw t : Int)).toNat < s.size - ((off pre pre.length : Nat) : Int).toNat
          rw [et, Int.toNat_natCast]
          omega
        have Key := Lib.hid key
        clear key
        rcases (show (65535 < x ∧ x ≤ 1114111) ∨ (x = 10) ∨ (x ≤ 65535 ∧ x ≠ 10) ∨ (1114112 ≤ x) by omega) with ⟨c1, c2⟩ | c1 | ⟨c1, c2⟩ | c1
        · have e1 : (accQ (pre ++ [t])).2.wd = (accQ pre).2.wd + 2 := by rw [hq]; show (accQ pre).2.wd + (if 65535 < (pt t : Int) ∧ (pt t : Int) ≤ 1114111 then 2 else 1) = _; rw [hx, if_pos ⟨c1, c2⟩]
          have e2 : (accQ (pre ++ [t])).2.ln = (accQ pre).2.ln := by rw [hq]; show (if (pt t : Int) = 10 then (accQ pre).2.ln + 1 else (accQ pre).2.ln) = _; rw [hx, if_neg (by omega)]
          have e3 : (accQ (pre ++ [t])).2.st = (accQ pre).2.st := by rw [hq]; show (if (pt t : Int) = 10 then (((accQ pre).1.length + 1 : Nat) : Int) else (accQ pre).2.st) = _; rw [hx, if_neg (by omega)]
          clear hx hq
          go_wp2
          go_roundw
          case rel =>
            refine ⟨pre ++ [t], .slice (some ⟨g, 0, none⟩) (pre.length + 1) cap, hpre2, by omega, by omega, ?_, ?_, ?_, ?_⟩
            · rw [e0, e1, e2, e3]
              simp [World.setCell, Array.getElem?_modify, n3]
              try omega
            · simp [World.setCell, Array.getElem?_modify, p3]
            · show World.ownsRow _ _ _ _ _ _ _
              rw [el, accQ_snoc, flat_snoc]
              refine own_move Hown3.out (fun k hk => ?_)
              have := own_base Hown3.out k hk
              repeat rw [Below.heap_setCell _ _ _ _ (by show k ≠ w.heap.size; omega)]
            · repeat (first | exact hbw3 | refine below_set ?_ _ _)
          case measure =>
            exact Key.out _ (by simp [World.cell?, World.setCell, Array.getElem?_modify, n3])
        · have e1 : (accQ (pre ++ [t])).2.wd = (accQ pre).2.wd + 1 := by rw [hq]; show (accQ pre).2.wd + (if 65535 < (pt t : Int) ∧ (pt t : Int) ≤ 1114111 then 2 else 1) = _; rw [hx, if_neg (by omega)]
          have e2 : (accQ (pre ++ [t])).2.ln = (accQ pre).2.ln + 1 := by rw [hq]; show (if (pt t : Int) = 10 then (accQ pre).2.ln + 1 else (accQ pre).2.ln) = _; rw [hx, if_pos c1]
          have e3 : (accQ (pre ++ [t])).2.st = ((pre.length + 1 : Nat) : Int) := by rw [hq]; show (if (pt t : Int) = 10 then (((accQ pre).1.length + 1 : Nat) : Int) else (accQ pre).2.st) = _; rw [hx, if_pos c1, hal]
          clear hx hq
          go_wp2
          go_roundw
          case rel =>
            refine ⟨pre ++ [t], .slice (some ⟨g, 0, none⟩) (pre.length + 1) cap, hpre2, by omega, by omega, ?_, ?_, ?_, ?_⟩
            · rw [e0, e1, e2, e3]
              simp [World.setCell, Array.getElem?_modify, n3]
              try omega
            · simp [World.setCell, Array.getElem?_modify, p3]
            · show World.ownsRow _ _ _ _ _ _ _
              rw [el, accQ_snoc, flat_snoc]
              refine own_move Hown3.out (fun k hk => ?_)
              have := own_base Hown3.out k hk
              repeat rw [Below.heap_setCell _ _ _ _ (by show k ≠ w.heap.size; omega)]
            · repeat (first | exact hbw3 | refine below_set ?_ _ _)
          case measure =>
            exact Key.out _ (by simp [World.cell?, World.setCell, Array.getElem?_modify, n3])
        · have e1 : (accQ (pre ++ [t])).2.wd = (accQ pre).2.wd + 1 := by rw [hq]; show (accQ pre).2.wd + (if 65535 < (pt t : Int) ∧ (pt t : Int) ≤ 1114111 then 2 else 1) = _; rw [hx, if_neg (by omega)]
          have e2 : (accQ (pre ++ [t])).2.ln = (accQ pre).2.ln := by rw [hq]; show (if (pt t : Int) = 10 then (accQ pre).2.ln + 1 else (accQ pre).2.ln) = _; rw [hx, if_neg c2]
          have e3 : (accQ (pre ++ [t])).2.st = (accQ pre).2.st := by rw [hq]; show (if (pt t : Int) = 10 then (((accQ pre).1.length + 1 : Nat) : Int) else (accQ pre).2.st) = _; rw [hx, if_neg c2]
          clear hx hq
          go_wp2
          go_roundw
          case rel =>
            refine ⟨pre ++ [t], .slice (some ⟨g, 0, none⟩) (pre.length + 1) cap, hpre2, by omega, by omega, ?_, ?_, ?_, ?_⟩
            · rw [e0, e1, e2, e3]
              simp [World.setCell, Array.getElem?_modify, n3]
              try omega
            · simp [World.setCell, Array.getElem?_modify, p3]
            · show World.ownsRow _ _ _ _ _ _ _
              rw [el, accQ_snoc, flat_snoc]
              refine own_move Hown3.out (fun k hk => ?_)
              have := own_base Hown3.out k hk
              repeat rw [Below.heap_setCell _ _ _ _ (by show k ≠ w.heap.size; omega)]
            · repeat (first | exact hbw3 | refine below_set ?_ _ _)
          case measure =>
            exact Key.out _ (by simp [World.cell?, World.setCell, Array.getElem?_modify, n3])
        · have e1 : (accQ (pre ++ [t])).2.wd = (accQ pre).2.wd + 1 := by rw [hq]; show (accQ pre).2.wd + (if 65535 < (pt t : Int) ∧ (pt t : Int) ≤ 1114111 then 2 else 1) = _; rw [hx, if_neg (by omega)]
          have e2 : (accQ (pre ++ [t])).2.ln = (accQ pre).2.ln := by rw [hq]; show (if (pt t : Int) = 10 then (accQ pre).2.ln + 1 else (accQ pre).2.ln) = _; rw [hx, if_neg (by omega)]
          have e3 : (accQ (pre ++ [t])).2.st = (accQ pre).2.st := by rw [hq]; show (if (pt t : Int) = 10 then (((accQ pre).1.length + 1 : Nat) : Int) else (accQ pre).2.st) = _; rw [hx, if_neg (by omega)]
          clear hx hq
          go_wp2
          go_roundw
          case rel =>
            refine ⟨pre ++ [t], .slice (some ⟨g, 0, none⟩) (pre.length + 1) cap, hpre2, by omega, by omega, ?_, ?_, ?_, ?_⟩
            · rw [e0, e1, e2, e3]
              simp [World.setCell, Array.getElem?_modify, n3]
              try omega
            · simp [World.setCell, Array.getElem?_modify, p3]
            · show World.ownsRow _ _ _ _ _ _ _
              rw [el, accQ_snoc, flat_snoc]
              refine own_move Hown3.out (fun k hk => ?_)
              have := own_base Hown3.out k hk
              repeat rw [Below.heap_setCell _ _ _ _ (by show k ≠ w.heap.size; omega)]
            · repeat (first | exact hbw3 | refine below_set ?_ _ _)
          case measure =>
            exact Key.out _ (by simp [World.cell?, World.setCell, Array.getElem?_modify, n3])
    · have hdone : sfx (bl s) = pre := by
        have h1 := hpre.out
        rw [List.drop_of_length_le (by rw [bl_len]; omega), sfx_nil, List.append_nil] at h1
        exact h1
      go_wp2_with fail
      go_region_law (refine step_append_lies _ rfl (.tmp 66) (.tmp 68) 100 rfl (w.heap.size + 2) 99 i0 (.agg #[.int .i64 0, .int .i64 0, .int .i64 0, .int .i64 0]) 4 32 Tryd.underlying100 hi hz0 hz1 hz2 rfl (by decide) v pre.length (flat (accQ pre).1) (by simp [Act.eval, Act.put]) HownX.out ⟨wr.heap.size, 0, none⟩ 1 1 (accQ pre).2.cells (by simp [Act.eval, Act.put]) rfl Hnews.out (by intro u hu; rw [now_cells] at hu; simp at hu; rcases hu with rfl | rfl | rfl | rfl <;> rfl) (by decide) (by unfold maxLen; omega) (by omega) (by simp; omega) _ rfl ?_; intro g cap w1 hown1 hgrow1 hat hlt1; obtain ⟨p1, n1, kp1, fz1, hb1⟩ := hstep w1 hgrow1; have Hown1 := Lib.hid hown1; clear hown1)
      all_goals
        have p2 := cell_modify p1 0 (.slice (some ⟨g, 0, none⟩) (pre.length + 1) cap)
        have Hown2 : Hid ((w1.setCell ⟨w.heap.size + 1, 0, none⟩ (.slice (some ⟨g, 0, none⟩) (pre.length + 1) cap)).ownsRow (w.heap.size + 2) 99 4 (.slice (some ⟨g, 0, none⟩) (pre.length + 1) cap) (pre.length + 1) (flat (accQ pre).1 ++ (accQ pre).2.cells)) :=
          own_move Hown1.out (fun k hk => Below.heap_setCell w1 ⟨w.heap.size + 1, 0, none⟩ _ k (by have := own_base Hown1.out k hk; show k ≠ w.heap.size + 1; omega))
        have hb2 : Below w.heap.size w (w1.setCell ⟨w.heap.size + 1, 0, none⟩ (.slice (some ⟨g, 0, none⟩) (pre.length + 1) cap)) := hb1.setCell (p := ⟨w.heap.size + 1, 0, none⟩) (by show w.heap.size ≤ w.heap.size + 1; omega) _
        go_wp2
        go_ret
        refine ⟨rfl, hb2, .slice (some ⟨g, 0, none⟩) (pre.length + 1) cap, p2, ?_⟩
        rw [hdone, flat_snoc]
        exact Hown2.out
end Go.Proofs.YtbkimhbpcmbflaaDoor.C

/-
  points.Places: Units, Byte, Unit, Wide, Line of what Measure made.
-/
set_option linter.unusedVariables false
set_option linter.unusedSimpArgs false
namespace Go.Proofs.YtbkimhbpcmbflaaDoor.C
open Go Go.RowKit Go.Proofs.YtbkimhbpcmbflaaDoor.M Go.Proofs.YtbkimhbpcmbflaaDoor.E Go.Proofs.YtbkimhbpcmbflaaDoor.PAll Go.Proofs.YtbkimhbpcmbflaaDoorW.PrintWords Go.Proofs.YtbkimhbpcmbflaaDoorW.PrintMore
attribute [local go_sem] max2_int min2_int max_two min_two

/-- what Measure made of the units us lies at block p -/
def PL (w : World) (B p : Nat) (us : List (List UInt8)) : Prop := ∃ g cap, p < B ∧ g < B ∧ us.length + 1 ≤ cap ∧ w.cell? ⟨p, 0, none⟩ = some (.slice (some ⟨g, 0, none⟩) (us.length + 1) cap) ∧
  ∀ i, i ≤ us.length → w.cell? ⟨g, i * 4, none⟩ = some (.int .i64 (off us i : Nat)) ∧ w.cell? ⟨g, i * 4 + 1, none⟩ = some (.int .i64 (accQ (us.take i)).2.wd) ∧ w.cell? ⟨g, i * 4 + 2, none⟩ = some (.int .i64 (accQ (us.take i)).2.ln) ∧ w.cell? ⟨g, i * 4 + 3, none⟩ = some (.int .i64 (accQ (us.take i)).2.st)
theorem PL.below {w w' : World} {B B' p : Nat} {us : List (List UInt8)} (h : PL w B p us) (hb : Below B' w w') (hB : B ≤ B') : PL w' B p us := by
  obtain ⟨g, cap, h1, h2, h3, h4, h5⟩ := h
  refine ⟨g, cap, h1, h2, h3, (hb.cell (p := ⟨p, 0, none⟩) (by show p < B'; omega)).trans h4, fun i hi => ?_⟩
  obtain ⟨k1, k2, k3, k4⟩ := h5 i hi
  have hg : g < B' := by omega
  exact ⟨(hb.cell (p := ⟨g, _, none⟩) hg).trans k1, (hb.cell (p := ⟨g, _, none⟩) hg).trans k2, (hb.cell (p := ⟨g, _, none⟩) hg).trans k3, (hb.cell (p := ⟨g, _, none⟩) hg).trans k4⟩
theorem PL.more {w : World} {B B' p : Nat} {us : List (List UInt8)} (h : PL w B p us) (hB : B ≤ B') : PL w B' p us := by
  obtain ⟨g, cap, h1, h2, h3, h4, h5⟩ := h
  exact ⟨g, cap, by omega, by omega, h3, h4, h5⟩
theorem flat_get : ∀ (qs : List Q) (i j : Nat) (q : Q), qs[i]? = some q → j < 4 → (flat qs)[i * 4 + j]? = q.cells[j]?
  | [], i, j, q, h, hj => by simp at h
  | a :: qs, 0, j, q, h, hj => by
    simp at h
    subst h
    unfold flat
    rw [List.flatMap_cons, List.getElem?_append_left (by show 0 * 4 + j < 4; omega)]
    simp
  | a :: qs, i + 1, j, q, h, hj => by
    rw [List.getElem?_cons_succ] at h
    have := flat_get qs i j q h hj
    unfold flat at this ⊢
    rw [List.flatMap_cons, List.getElem?_append_right (by show 4 ≤ (i + 1) * 4 + j; omega), ← this]
    congr 1
    show (i + 1) * 4 + j - 4 = _
    omega
theorem PL_of {w : World} {p base : Nat} {v : Value} {us : List (List UInt8)} (h1 : w.heap[p]? = some (.cells #[v] 102 (0, 0))) (h2 : w.ownsRow base 99 4 v (us.length + 1) (flat ((accQ us).1 ++ [(accQ us).2]))) : PL w w.heap.size p us := by
  obtain ⟨g, cap, rfl, hb, hlt⟩ := h2.form (by omega)
  have hc : us.length + 1 ≤ cap := by
    rcases h2.2 with ⟨h, _⟩ | ⟨g', cap', cur, he, _, _, hn, _⟩
    · cases h
    · cases he; omega
  refine ⟨g, cap, (Array.getElem?_eq_some_iff.1 h1).1, hlt, hc, cell_of_row _ _ _ _ _ _ h1, fun i hi => ?_⟩
  have hq := accQ_get us i hi
  have key : ∀ j u, j < 4 → (accQ (us.take i)).2.cells[j]? = some u → w.cell? ⟨g, i * 4 + j, none⟩ = some u := fun j u hj hu => by
    have := World.ownsRow.cells h2 (g := g) rfl (i * 4 + j) u (by rw [flat_get _ i j _ hq hj]; exact hu)
    have ea : (⟨g, 0, none⟩ : Addr).add (i * 4 + j) = ⟨g, i * 4 + j, none⟩ := by unfold Addr.add; split <;> simp_all
    rw [ea] at this
    exact this
  have e0 : (accQ (us.take i)).2.b = (off us i : Nat) := (accQ_what _).1
  have k0 := key 0 _ (by omega) rfl
  rw [e0] at k0
  exact ⟨k0, key 1 _ (by omega) rfl, key 2 _ (by omega) rfl, key 3 _ (by omega) rfl⟩

set_option maxHeartbeats 1000000 in
set_option maxRecDepth 1000000 in
theorem units_any (w : World) (B p : Nat) (us : List (List UInt8)) (h : PL w B p us) (hl : us.length ≤ 1048576) :
    Calls Tryd.prog 52 #[.pointer (some ⟨p, 0, none⟩)] w fun e w' => e = .returned (.int .i64 (us.length : Nat)) ∧ w = w' := by
  obtain ⟨g, cap, h1, h2, h3, h4, h5⟩ := h
  obtain ⟨n, hn⟩ : ∃ n, us.length = n := ⟨_, rfl⟩
  rw [hn] at h4 hl ⊢
  have hw : wrap64 (((n + 1 : Nat) : Int) - 1) = (n : Int) := by rw [w64 (by omega) (by omega)]; omega
  clear h5 h3 hn
  go_enter Tryd.func52, Tryd.ntmps52
  go_wp2
  go_ret
  exact ⟨rfl, rfl⟩
theorem PL.heap {w w' : World} {B p : Nat} {us : List (List UInt8)} (h : PL w B p us) (e : w'.heap = w.heap) : PL w' B p us := by
  have hc : ∀ a, w'.cell? a = w.cell? a := fun a => by simp [World.cell?, e]
  obtain ⟨g, cap, h1, h2, h3, h4, h5⟩ := h
  exact ⟨g, cap, h1, h2, h3, by rw [hc]; exact h4, fun i hi => by rw [hc, hc, hc, hc]; exact h5 i hi⟩
theorem drewN_heap (w : World) (n : Nat) : (w.drewN n).heap = w.heap := by simp

set_option maxHeartbeats 1000000 in
set_option maxRecDepth 1000000 in
theorem byte_any (w : World) (B p : Nat) (us : List (List UInt8)) (h : PL w B p us) (hl : us.length ≤ 1048576) (u : Int) :
    Calls Tryd.prog 55 #[.pointer (some ⟨p, 0, none⟩), .int .i64 u] w fun e w' => e = .returned (.int .i64 (off us (clampN us.length u) : Nat)) ∧ Below w.heap.size w w' := by
  have cU := fun k => (units_any (w.drewN k) B p us (h.heap (drewN_heap w k)) hl).mono (R' := fun e w' => e = .returned (.int .i64 (us.length : Nat)) ∧ w' = w.drewN k) (fun e w' ⟨a, b⟩ => ⟨a, b.symm⟩)
  obtain ⟨g, cap, h1, h2, h3, h4, h5⟩ := h
  obtain ⟨n, hn⟩ : ∃ n, us.length = n := ⟨_, rfl⟩
  obtain ⟨c, hc⟩ : ∃ c, clampN us.length u = c := ⟨_, rfl⟩
  have hcn : c ≤ us.length := by rw [← hc]; unfold clampN; omega
  have k0 := (h5 c hcn).1
  rw [hc]
  have hcases : (u < 0 ∧ c = 0) ∨ (0 ≤ u ∧ u ≤ us.length ∧ (c : Int) = u) ∨ ((us.length : Int) < u ∧ c = us.length) := by rw [← hc]; unfold clampN; omega
  rw [hn] at h4 hl cU hcn hcases h3
  generalize (off us c : Nat) = r at k0 ⊢
  clear h5 hn hc
  rcases hcases with ⟨c1, c2⟩ | ⟨c1, c2, c3⟩ | ⟨c1, c2⟩
  · subst c2
    go_enter Tryd.func55, Tryd.ntmps55
    go_wp2_with fail
    go_quiet (first | (go_at_call 52; exact Calls.quiet_of_same (cU _)))
    go_wp2
    go_ret
    exact ⟨rfl, Drawn0.below ⟨⟨_, rfl⟩⟩⟩
  · subst c3
    have c4 : ¬ ((n : Int) < (c : Int)) := by omega
    by_cases c0 : c = 0
    · subst c0
      go_enter Tryd.func55, Tryd.ntmps55
      go_wp2_with fail
      go_quiet (first | (go_at_call 52; exact Calls.quiet_of_same (cU _)))
      go_wp2
      go_ret
      exact ⟨rfl, Drawn0.below ⟨⟨_, rfl⟩⟩⟩
    have c5 : (0 : Int) < (c : Int) := by omega
    go_enter Tryd.func55, Tryd.ntmps55
    go_wp2_with fail
    go_quiet (first | (go_at_call 52; exact Calls.quiet_of_same (cU _)))
    go_wp2
    go_ret
    exact ⟨rfl, Drawn0.below ⟨⟨_, rfl⟩⟩⟩
  · subst c2
    have c6 : (0 : Int) ≤ (c : Int) := by omega
    by_cases c0 : c = 0
    · subst c0
      go_enter Tryd.func55, Tryd.ntmps55
      go_wp2_with fail
      go_quiet (first | (go_at_call 52; exact Calls.quiet_of_same (cU _)))
      go_wp2
      go_ret
      exact ⟨rfl, Drawn0.below ⟨⟨_, rfl⟩⟩⟩
    have c5 : (0 : Int) < (c : Int) := by omega
    go_enter Tryd.func55, Tryd.ntmps55
    go_wp2_with fail
    go_quiet (first | (go_at_call 52; exact Calls.quiet_of_same (cU _)))
    go_wp2
    go_ret
    exact ⟨rfl, Drawn0.below ⟨⟨_, rfl⟩⟩⟩


def clampA (m : Nat) (a : Int) : Nat := (min a (m : Int)).toNat
theorem IsU_of {l : List UInt8} {a : Int} {i : Nat} (hi : i ≤ (sfx l).length) (h1 : off (sfx l) i ≤ clampA l.length a) (h2 : i < (sfx l).length → clampA l.length a < off (sfx l) (i + 1)) : IsU l a i := by
  refine ⟨hi, ?_, fun h => ?_⟩
  · rcases Nat.eq_zero_or_pos i with h0 | h0
    · exact .inl h0
    · right
      have := off_ge l i hi
      unfold clampA at h1
      omega
  · have := h2 h
    have h3 := off_le l (i := i + 1) (by omega)
    unfold clampA at this
    omega
set_option maxHeartbeats 2000000 in
set_option maxRecDepth 1000000 in
theorem unit_any (w : World) (B p : Nat) (l : List UInt8) (h : PL w B p (sfx l)) (hl : l.length ≤ 1048576) (a : Int) :
    Calls Tryd.prog 64 #[.pointer (some ⟨p, 0, none⟩), .int .i64 a] w fun e w' => ∃ i, IsU l a i ∧ e = .returned (.tuple #[.int .i64 (i : Nat), .bool ((off (sfx l) i : Int) == (clampA l.length a : Int))]) ∧ Below w.heap.size w w' := by
  have hsl := sfx_len l
  have cU := fun k => (units_any (w.drewN k) B p (sfx l) (h.heap (drewN_heap w k)) (by omega)).mono (R' := fun e w' => e = .returned (.int .i64 ((sfx l).length : Nat)) ∧ w' = w.drewN k) (fun e w' ⟨a, b⟩ => ⟨a, b.symm⟩)
  obtain ⟨g, cap, h1, h2, h3, h4, h5⟩ := h
  obtain ⟨n, hn⟩ : ∃ n, (sfx l).length = n := ⟨_, rfl⟩
  have kN := (h5 (sfx l).length (Nat.le_refl _)).1
  rw [off_total] at kN
  obtain ⟨m, hm⟩ : ∃ m, l.length = m := ⟨_, rfl⟩
  obtain ⟨x, hx⟩ : ∃ x, clampA l.length a = x := ⟨_, rfl⟩
  have hcases : (a < 0 ∧ x = 0) ∨ (0 ≤ a ∧ a ≤ m ∧ (x : Int) = a) ∨ ((m : Int) < a ∧ x = m) := by rw [← hx, ← hm]; unfold clampA; omega
  have hcell : Hid (∀ i, i ≤ n → w.cell? ⟨g, i * 4, none⟩ = some (.int .i64 (off (sfx l) i : Nat))) := fun i hi => (h5 i (by omega)).1
  have Hn := Lib.hid hn
  have Hm := Lib.hid hm
  have Hx := Lib.hid hx
  have hm20 : m ≤ 1048576 := by omega
  have hn20 : n ≤ 1048576 := by omega
  rw [hn] at h4 cU h3 kN
  rw [hm] at kN
  rw [hx]
  clear h5 hn hm hx
  rcases hcases with ⟨c1, c2⟩ | ⟨c1, c2, c3⟩ | ⟨c1, c2⟩
  · subst c2
    go_enter Tryd.func64, Tryd.ntmps64
    go_wp2_with fail
    go_quiet (first | (go_at_call 52; exact Calls.quiet_of_same (cU _)))
    go_wp2_with (first | (go_at_call 52; refine (cU _).mono ?_; rintro e w1 ⟨rfl, rfl⟩))
    go_loopw [6, 7] (fun iv jv wr => ∃ i j : Nat, iv = .int .i64 i ∧ jv = .int .i64 j ∧ i ≤ j ∧ j ≤ n ∧ Hid (off (sfx l) i ≤ 0) ∧ Hid (j < n → 0 < off (sfx l) (j + 1)) ∧ Hid (wr.heap = w.heap) ∧ Below w.heap.size w wr)
      (fun iv jv _ => (intOf jv - intOf iv).toNat)
    case atStart =>
      exact ⟨0, n, rfl, rfl, by omega, by omega, by show off (sfx l) 0 ≤ _; rw [off_zero]; omega, fun hh => by omega, drewN_heap w _, Drawn0.below ⟨⟨_, rfl⟩⟩⟩
    case round =>
      obtain ⟨i, j, rfl, rfl, hij, hjn, hoi, hoj, hwh, hbw⟩ := hrel
      have hcw : Hid (∀ k, k ≤ n → wr.cell? ⟨g, k * 4, none⟩ = some (.int .i64 (off (sfx l) k : Nat))) := fun k hk => by
        rw [show wr.cell? ⟨g, k * 4, none⟩ = w.cell? ⟨g, k * 4, none⟩ by simp [World.cell?, hwh.out]]
        exact hcell.out k hk
      have k4 : wr.cell? ⟨p, 0, none⟩ = some (.slice (some ⟨g, 0, none⟩) (n + 1) cap) := by
        rw [show wr.cell? ⟨p, 0, none⟩ = w.cell? ⟨p, 0, none⟩ by simp [World.cell?, hwh.out]]
        exact h4
      by_cases hlt : i < j
      · obtain ⟨md, hmd⟩ : ∃ md, (i + j + 1) / 2 = md := ⟨_, rfl⟩
        have hmI : Int.tdiv ((i : Int) + (j : Int) + 1) 2 = (md : Int) := by rw [Int.tdiv_eq_ediv_of_nonneg (by omega)]; omega
        have hm1 : i < md := by omega
        have hm2 : md ≤ j := by omega
        have km := hcw.out md (by omega)
        clear hmd
        by_cases hc : off (sfx l) md ≤ 0
        · have hcI : (off (sfx l) md : Int) ≤ 0 := by omega
          go_wp2
          go_roundw
          case rel => exact ⟨md, j, rfl, rfl, hm2, hjn, hc, hoj, hwh, hbw⟩
          case measure => simp [intOf]; omega
        · have hcI : 0 < (off (sfx l) md : Int) := by omega
          have hmd1 : wrap64 ((md : Int) - 1) = ((md - 1 : Nat) : Int) := by rw [w64 (by omega) (by omega)]; omega
          go_wp2
          go_roundw
          case rel =>
            refine ⟨i, md - 1, rfl, by go_num, by omega, by omega, hoi, ?_, hwh, hbw⟩
            show md - 1 < n → 0 < off (sfx l) (md - 1 + 1)
            rw [show md - 1 + 1 = md by omega]
            intro _
            omega
          case measure => simp [intOf]; omega
      · obtain rfl : i = j := by omega
        have ki := hcw.out i hjn
        go_wp2_with fail
        go_quiet (fail)
        go_wp2
        go_ret2
        refine ⟨i, IsU_of (by have := Hn.out; omega) (by rw [Hx.out]; exact hoi.out) (fun hh => by rw [Hx.out]; exact hoj.out (by have := Hn.out; omega)), rfl, ?_⟩
        exact hbw.trans ((Drawn0.below ⟨⟨_, rfl⟩⟩).mono hbw.size)
  · subst c3
    by_cases c0 : x = 0
    · subst c0
      go_enter Tryd.func64, Tryd.ntmps64
      go_wp2_with fail
      go_quiet (first | (go_at_call 52; exact Calls.quiet_of_same (cU _)))
      go_wp2_with (first | (go_at_call 52; refine (cU _).mono ?_; rintro e w1 ⟨rfl, rfl⟩))
      go_loopw [6, 7] (fun iv jv wr => ∃ i j : Nat, iv = .int .i64 i ∧ jv = .int .i64 j ∧ i ≤ j ∧ j ≤ n ∧ Hid (off (sfx l) i ≤ 0) ∧ Hid (j < n → 0 < off (sfx l) (j + 1)) ∧ Hid (wr.heap = w.heap) ∧ Below w.heap.size w wr)
        (fun iv jv _ => (intOf jv - intOf iv).toNat)
      case atStart =>
        exact ⟨0, n, rfl, rfl, by omega, by omega, by show off (sfx l) 0 ≤ _; rw [off_zero]; omega, fun hh => by omega, drewN_heap w _, Drawn0.below ⟨⟨_, rfl⟩⟩⟩
      case round =>
        obtain ⟨i, j, rfl, rfl, hij, hjn, hoi, hoj, hwh, hbw⟩ := hrel
        have hcw : Hid (∀ k, k ≤ n → wr.cell? ⟨g, k * 4, none⟩ = some (.int .i64 (off (sfx l) k : Nat))) := fun k hk => by
          rw [show wr.cell? ⟨g, k * 4, none⟩ = w.cell? ⟨g, k * 4, none⟩ by simp [World.cell?, hwh.out]]
          exact hcell.out k hk
        have k4 : wr.cell? ⟨p, 0, none⟩ = some (.slice (some ⟨g, 0, none⟩) (n + 1) cap) := by
          rw [show wr.cell? ⟨p, 0, none⟩ = w.cell? ⟨p, 0, none⟩ by simp [World.cell?, hwh.out]]
          exact h4
        by_cases hlt : i < j
        · obtain ⟨md, hmd⟩ : ∃ md, (i + j + 1) / 2 = md := ⟨_, rfl⟩
          have hmI : Int.tdiv ((i : Int) + (j : Int) + 1) 2 = (md : Int) := by rw [Int.tdiv_eq_ediv_of_nonneg (by omega)]; omega
          have hm1 : i < md := by omega
          have hm2 : md ≤ j := by omega
          have km := hcw.out md (by omega)
          clear hmd
          by_cases hc : off (sfx l) md ≤ 0
          · have hcI : (off (sfx l) md : Int) ≤ 0 := by omega
            go_wp2
            go_roundw
            case rel => exact ⟨md, j, rfl, rfl, hm2, hjn, hc, hoj, hwh, hbw⟩
            case measure => simp [intOf]; omega
          · have hcI : 0 < (off (sfx l) md : Int) := by omega
            have hmd1 : wrap64 ((md : Int) - 1) = ((md - 1 : Nat) : Int) := by rw [w64 (by omega) (by omega)]; omega
            go_wp2
            go_roundw
            case rel =>
              refine ⟨i, md - 1, rfl, by go_num, by omega, by omega, hoi, ?_, hwh, hbw⟩
              show md - 1 < n → 0 < off (sfx l) (md - 1 + 1)
              rw [show md - 1 + 1 = md by omega]
              intro _
              omega
            case measure => simp [intOf]; omega
        · obtain rfl : i = j := by omega
          have ki := hcw.out i hjn
          go_wp2_with fail
          go_quiet (fail)
          go_wp2
          go_ret2
          refine ⟨i, IsU_of (by have := Hn.out; omega) (by rw [Hx.out]; exact hoi.out) (fun hh => by rw [Hx.out]; exact hoj.out (by have := Hn.out; omega)), rfl, ?_⟩
          exact hbw.trans ((Drawn0.below ⟨⟨_, rfl⟩⟩).mono hbw.size)
    have c5 : (0 : Int) < (x : Int) := by omega
    go_enter Tryd.func64, Tryd.ntmps64
    go_wp2_with fail
    go_quiet (first | (go_at_call 52; exact Calls.quiet_of_same (cU _)))
    go_wp2_with (first | (go_at_call 52; refine (cU _).mono ?_; rintro e w1 ⟨rfl, rfl⟩))
    go_loopw [6, 7] (fun iv jv wr => ∃ i j : Nat, iv = .int .i64 i ∧ jv = .int .i64 j ∧ i ≤ j ∧ j ≤ n ∧ Hid (off (sfx l) i ≤ x) ∧ Hid (j < n → x < off (sfx l) (j + 1)) ∧ Hid (wr.heap = w.heap) ∧ Below w.heap.size w wr)
      (fun iv jv _ => (intOf jv - intOf iv).toNat)
    case atStart =>
      exact ⟨0, n, rfl, rfl, by omega, by omega, by show off (sfx l) 0 ≤ _; rw [off_zero]; omega, fun hh => by omega, drewN_heap w _, Drawn0.below ⟨⟨_, rfl⟩⟩⟩
    case round =>
      obtain ⟨i, j, rfl, rfl, hij, hjn, hoi, hoj, hwh, hbw⟩ := hrel
      have hcw : Hid (∀ k, k ≤ n → wr.cell? ⟨g, k * 4, none⟩ = some (.int .i64 (off (sfx l) k : Nat))) := fun k hk => by
        rw [show wr.cell? ⟨g, k * 4, none⟩ = w.cell? ⟨g, k * 4, none⟩ by simp [World.cell?, hwh.out]]
        exact hcell.out k hk
      have k4 : wr.cell? ⟨p, 0, none⟩ = some (.slice (some ⟨g, 0, none⟩) (n + 1) cap) := by
        rw [show wr.cell? ⟨p, 0, none⟩ = w.cell? ⟨p, 0, none⟩ by simp [World.cell?, hwh.out]]
        exact h4
      by_cases hlt : i < j
      · obtain ⟨md, hmd⟩ : ∃ md, (i + j + 1) / 2 = md := ⟨_, rfl⟩
        have hmI : Int.tdiv ((i : Int) + (j : Int) + 1) 2 = (md : Int) := by rw [Int.tdiv_eq_ediv_of_nonneg (by omega)]; omega
        have hm1 : i < md := by omega
        have hm2 : md ≤ j := by omega
        have km := hcw.out md (by omega)
        clear hmd
        by_cases hc : off (sfx l) md ≤ x
        · have hcI : (off (sfx l) md : Int) ≤ (x : Int) := by omega
          go_wp2
          go_roundw
          case rel => exact ⟨md, j, rfl, rfl, hm2, hjn, hc, hoj, hwh, hbw⟩
          case measure => simp [intOf]; omega
        · have hcI : (x : Int) < (off (sfx l) md : Int) := by omega
          have hmd1 : wrap64 ((md : Int) - 1) = ((md - 1 : Nat) : Int) := by rw [w64 (by omega) (by omega)]; omega
          go_wp2
          go_roundw
          case rel =>
            refine ⟨i, md - 1, rfl, by go_num, by omega, by omega, hoi, ?_, hwh, hbw⟩
            show md - 1 < n → x < off (sfx l) (md - 1 + 1)
            rw [show md - 1 + 1 = md by omega]
            intro _
            omega
          case measure => simp [intOf]; omega
      · obtain rfl : i = j := by omega
        have ki := hcw.out i hjn
        go_wp2_with fail
        go_quiet (fail)
        go_wp2
        go_ret2
        refine ⟨i, IsU_of (by have := Hn.out; omega) (by rw [Hx.out]; exact hoi.out) (fun hh => by rw [Hx.out]; exact hoj.out (by have := Hn.out; omega)), rfl, ?_⟩
        exact hbw.trans ((Drawn0.below ⟨⟨_, rfl⟩⟩).mono hbw.size)
  · subst c2
    by_cases c0 : x = 0
    · subst c0
      go_enter Tryd.func64, Tryd.ntmps64
      go_wp2_with fail
      go_quiet (first | (go_at_call 52; exact Calls.quiet_of_same (cU _)))
      go_wp2_with (first | (go_at_call 52; refine (cU _).mono ?_; rintro e w1 ⟨rfl, rfl⟩))
      go_loopw [6, 7] (fun iv jv wr => ∃ i j : Nat, iv = .int .i64 i ∧ jv = .int .i64 j ∧ i ≤ j ∧ j ≤ n ∧ Hid (off (sfx l) i ≤ 0) ∧ Hid (j < n → 0 < off (sfx l) (j + 1)) ∧ Hid (wr.heap = w.heap) ∧ Below w.heap.size w wr)
        (fun iv jv _ => (intOf jv - intOf iv).toNat)
      case atStart =>
        exact ⟨0, n, rfl, rfl, by omega, by omega, by show off (sfx l) 0 ≤ _; rw [off_zero]; omega, fun hh => by omega, drewN_heap w _, Drawn0.below ⟨⟨_, rfl⟩⟩⟩
      case round =>
        obtain ⟨i, j, rfl, rfl, hij, hjn, hoi, hoj, hwh, hbw⟩ := hrel
        have hcw : Hid (∀ k, k ≤ n → wr.cell? ⟨g, k * 4, none⟩ = some (.int .i64 (off (sfx l) k : Nat))) := fun k hk => by
          rw [show wr.cell? ⟨g, k * 4, none⟩ = w.cell? ⟨g, k * 4, none⟩ by simp [World.cell?, hwh.out]]
          exact hcell.out k hk
        have k4 : wr.cell? ⟨p, 0, none⟩ = some (.slice (some ⟨g, 0, none⟩) (n + 1) cap) := by
          rw [show wr.cell? ⟨p, 0, none⟩ = w.cell? ⟨p, 0, none⟩ by simp [World.cell?, hwh.out]]
          exact h4
        by_cases hlt : i < j
        · obtain ⟨md, hmd⟩ : ∃ md, (i + j + 1) / 2 = md := ⟨_, rfl⟩
          have hmI : Int.tdiv ((i : Int) + (j : Int) + 1) 2 = (md : Int) := by rw [Int.tdiv_eq_ediv_of_nonneg (by omega)]; omega
          have hm1 : i < md := by omega
          have hm2 : md ≤ j := by omega
          have km := hcw.out md (by omega)
          clear hmd
          by_cases hc : off (sfx l) md ≤ 0
          · have hcI : (off (sfx l) md : Int) ≤ 0 := by omega
            go_wp2
            go_roundw
            case rel => exact ⟨md, j, rfl, rfl, hm2, hjn, hc, hoj, hwh, hbw⟩
            case measure => simp [intOf]; omega
          · have hcI : 0 < (off (sfx l) md : Int) := by omega
            have hmd1 : wrap64 ((md : Int) - 1) = ((md - 1 : Nat) : Int) := by rw [w64 (by omega) (by omega)]; omega
            go_wp2
            go_roundw
            case rel =>
              refine ⟨i, md - 1, rfl, by go_num, by omega, by omega, hoi, ?_, hwh, hbw⟩
              show md - 1 < n → 0 < off (sfx l) (md - 1 + 1)
              rw [show md - 1 + 1 = md by omega]
              intro _
              omega
            case measure => simp [intOf]; omega
        · obtain rfl : i = j := by omega
          have ki := hcw.out i hjn
          go_wp2_with fail
          go_quiet (fail)
          go_wp2
          go_ret2
          refine ⟨i, IsU_of (by have := Hn.out; omega) (by rw [Hx.out]; exact hoi.out) (fun hh => by rw [Hx.out]; exact hoj.out (by have := Hn.out; omega)), rfl, ?_⟩
          exact hbw.trans ((Drawn0.below ⟨⟨_, rfl⟩⟩).mono hbw.size)
    have c5 : (0 : Int) < (x : Int) := by omega
    go_enter Tryd.func64, Tryd.ntmps64
    go_wp2_with fail
    go_quiet (first | (go_at_call 52; exact Calls.quiet_of_same (cU _)))
    go_wp2_with (first | (go_at_call 52; refine (cU _).mono ?_; rintro e w1 ⟨rfl, rfl⟩))
    go_loopw [6, 7] (fun iv jv wr => ∃ i j : Nat, iv = .int .i64 i ∧ jv = .int .i64 j ∧ i ≤ j ∧ j ≤ n ∧ Hid (off (sfx l) i ≤ x) ∧ Hid (j < n → x < off (sfx l) (j + 1)) ∧ Hid (wr.heap = w.heap) ∧ Below w.heap.size w wr)
      (fun iv jv _ => (intOf jv - intOf iv).toNat)
    case atStart =>
      exact ⟨0, n, rfl, rfl, by omega, by omega, by show off (sfx l) 0 ≤ _; rw [off_zero]; omega, fun hh => by omega, drewN_heap w _, Drawn0.below ⟨⟨_, rfl⟩⟩⟩
    case round =>
      obtain ⟨i, j, rfl, rfl, hij, hjn, hoi, hoj, hwh, hbw⟩ := hrel
      have hcw : Hid (∀ k, k ≤ n → wr.cell? ⟨g, k * 4, none⟩ = some (.int .i64 (off (sfx l) k : Nat))) := fun k hk => by
        rw [show wr.cell? ⟨g, k * 4, none⟩ = w.cell? ⟨g, k * 4, none⟩ by simp [World.cell?, hwh.out]]
        exact hcell.out k hk
      have k4 : wr.cell? ⟨p, 0, none⟩ = some (.slice (some ⟨g, 0, none⟩) (n + 1) cap) := by
        rw [show wr.cell? ⟨p, 0, none⟩ = w.cell? ⟨p, 0, none⟩ by simp [World.cell?, hwh.out]]
        exact h4
      by_cases hlt : i < j
      · obtain ⟨md, hmd⟩ : ∃ md, (i + j + 1) / 2 = md := ⟨_, rfl⟩
        have hmI : Int.tdiv ((i : Int) + (j : Int) + 1) 2 = (md : Int) := by rw [Int.tdiv_eq_ediv_of_nonneg (by omega)]; omega
        have hm1 : i < md := by omega
        have hm2 : md ≤ j := by omega
        have km := hcw.out md (by omega)
        clear hmd
        by_cases hc : off (sfx l) md ≤ x
        · have hcI : (off (sfx l) md : Int) ≤ (x : Int) := by omega
          go_wp2
          go_roundw
          case rel => exact ⟨md, j, rfl, rfl, hm2, hjn, hc, hoj, hwh, hbw⟩
          case measure => simp [intOf]; omega
        · have hcI : (x : Int) < (off (sfx l) md : Int) := by omega
          have hmd1 : wrap64 ((md : Int) - 1) = ((md - 1 : Nat) : Int) := by rw [w64 (by omega) (by omega)]; omega
          go_wp2
          go_roundw
          case rel =>
            refine ⟨i, md - 1, rfl, by go_num, by omega, by omega, hoi, ?_, hwh, hbw⟩
            show md - 1 < n → x < off (sfx l) (md - 1 + 1)
            rw [show md - 1 + 1 = md by omega]
            intro _
            omega
          case measure => simp [intOf]; omega
      · obtain rfl : i = j := by omega
        have ki := hcw.out i hjn
        go_wp2_with fail
        go_quiet (fail)
        go_wp2
        go_ret2
        refine ⟨i, IsU_of (by have := Hn.out; omega) (by rw [Hx.out]; exact hoi.out) (fun hh => by rw [Hx.out]; exact hoj.out (by have := Hn.out; omega)), rfl, ?_⟩
        exact hbw.trans ((Drawn0.below ⟨⟨_, rfl⟩⟩).mono hbw.size)
end Go.Proofs.YtbkimhbpcmbflaaDoor.C

/-
  K8, K9, K10, K11, K12, joined to one text.
-/
/-
  points.Places: Wide and Line.
-/
set_option linter.unusedVariables false
set_option linter.unusedSimpArgs false
namespace Go.Proofs.YtbkimhbpcmbflaaDoor.C
open Go Go.RowKit Go.Proofs.YtbkimhbpcmbflaaDoor.M Go.Proofs.YtbkimhbpcmbflaaDoor.E Go.Proofs.YtbkimhbpcmbflaaDoor.PAll Go.Proofs.YtbkimhbpcmbflaaDoorW.PrintWords

theorem qpts_take (l : List UInt8) (i : Nat) : qpts ((sfx l).take i) = (pts l).take i := by unfold qpts pts; rw [List.map_take]
set_option maxHeartbeats 1000000 in
set_option maxRecDepth 1000000 in
theorem wide_any (w : World) (B p : Nat) (l : List UInt8) (h : PL w B p (sfx l)) (hBw : B ≤ w.heap.size) (hl : l.length ≤ 1048576) (a : Int) (i : Nat) (hi : IsU l a i) :
    Calls Tryd.prog 62 #[.pointer (some ⟨p, 0, none⟩), .int .i64 a] w fun e w' => e = .returned (.int .i64 (wsum ((pts l).take i))) ∧ Below w.heap.size w w' := by
  have hsl := sfx_len l
  have cU := (unit_any w B p l h hl a).mono (R' := fun e w' => ∃ b, e = .returned (.tuple #[.int .i64 (i : Nat), .bool b]) ∧ PL w' B p (sfx l) ∧ Below w.heap.size w w') (fun e w' ⟨j, hj, he, hb⟩ => by
    obtain rfl := hj.unique hi
    exact ⟨_, he, h.below hb hBw, hb⟩)
  have e1 := (accQ_what ((sfx l).take i)).2.1
  rw [qpts_take] at e1
  rw [← e1]
  have hin := hi.1
  obtain ⟨n, hn⟩ : ∃ n, (sfx l).length = n := ⟨_, rfl⟩
  rw [hn] at hin
  go_enter Tryd.func62, Tryd.ntmps62
  go_wp2_with fail
  refine cU.mono ?_
  rintro e w1 ⟨b, rfl, hp, hb1⟩
  obtain ⟨g, cap, h1, h2, h3, h4, h5⟩ := hp
  have k1 := (h5 i (by omega)).2.1
  rw [hn] at h4
  clear h5 e1 hi cU
  go_wp2
  go_ret
  exact ⟨rfl, hb1⟩
set_option maxHeartbeats 1000000 in
set_option maxRecDepth 1000000 in
theorem line_any (w : World) (B p : Nat) (l : List UInt8) (h : PL w B p (sfx l)) (hBw : B ≤ w.heap.size) (hl : l.length ≤ 1048576) (a : Int) (i : Nat) (hi : IsU l a i) :
    Calls Tryd.prog 103 #[.pointer (some ⟨p, 0, none⟩), .int .i64 a] w fun e w' => e = .returned (.tuple #[.int .i64 (lfold 1 1 ((pts l).take i)).1, .int .i64 (lfold 1 1 ((pts l).take i)).2]) ∧ Below w.heap.size w w' := by
  have hsl := sfx_len l
  have cU := (unit_any w B p l h hl a).mono (R' := fun e w' => ∃ b, e = .returned (.tuple #[.int .i64 (i : Nat), .bool b]) ∧ PL w' B p (sfx l) ∧ Below w.heap.size w w') (fun e w' ⟨j, hj, he, hb⟩ => by
    obtain rfl := hj.unique hi
    exact ⟨_, he, h.below hb hBw, hb⟩)
  have e1 := (accQ_what ((sfx l).take i)).2.2
  have hin := hi.1
  rw [qpts_take, List.length_take, Nat.min_eq_left hin] at e1
  rw [e1]
  have hbd := accQ_bounds ((sfx l).take i)
  rw [List.length_take, Nat.min_eq_left hin] at hbd
  obtain ⟨-, -, b1, b2, b3, b4⟩ := hbd
  obtain ⟨n, hn⟩ : ∃ n, (sfx l).length = n := ⟨_, rfl⟩
  rw [hn] at hin
  have w1 : wrap64 ((accQ ((sfx l).take i)).2.ln + 1) = (accQ ((sfx l).take i)).2.ln + 1 := w64 (by omega) (by omega)
  show Calls _ _ _ _ fun e w' => e = .returned (.tuple #[.int .i64 ((accQ ((sfx l).take i)).2.ln + 1), .int .i64 ((i : Int) - (accQ ((sfx l).take i)).2.st + 1)]) ∧ Below w.heap.size w w'
  have hk : ∀ W : World, PL W B p (sfx l) → ∃ g cap, n + 1 ≤ cap ∧ W.cell? ⟨p, 0, none⟩ = some (.slice (some ⟨g, 0, none⟩) (n + 1) cap) ∧ W.cell? ⟨g, i * 4 + 2, none⟩ = some (.int .i64 (accQ ((sfx l).take i)).2.ln) ∧ W.cell? ⟨g, i * 4 + 3, none⟩ = some (.int .i64 (accQ ((sfx l).take i)).2.st) := fun W hp => by
    obtain ⟨g, cap, h1, h2, h3, h4, h5⟩ := hp
    obtain ⟨-, -, k2, k3⟩ := h5 i (by omega)
    rw [hn] at h4 h3
    exact ⟨g, cap, h3, h4, k2, k3⟩
  generalize (accQ ((sfx l).take i)).2.ln = x at b1 b2 hk w1 ⊢
  generalize (accQ ((sfx l).take i)).2.st = y at b3 b4 hk ⊢
  go_enter Tryd.func103, Tryd.ntmps103
  go_wp2_with fail
  refine cU.mono ?_
  rintro e w1 ⟨b, rfl, hp, hb1⟩
  obtain ⟨g, cap, h3, h4, k2, k3⟩ := hk _ hp
  clear e1 hi cU hk
  go_wp2_with fail
  go_quiet (fail)
  go_wp2
  go_ret2
  exact ⟨rfl, hb1.trans ((Drawn0.below ⟨⟨_, rfl⟩⟩).mono hb1.size)⟩
end Go.Proofs.YtbkimhbpcmbflaaDoor.C

/-
  glossarylaw02.placed: all answers about a number are the document's.
-/
set_option linter.unusedVariables false
set_option linter.unusedSimpArgs false
namespace Go.Proofs.YtbkimhbpcmbflaaDoor.C
open Go Go.RowKit Go.Proofs.YtbkimhbpcmbflaaDoor.M Go.Proofs.YtbkimhbpcmbflaaDoor.E Go.Proofs.YtbkimhbpcmbflaaDoor.PAll Go.Proofs.YtbkimhbpcmbflaaDoorW.PrintWords

def Sp (w W : World) (B p : Nat) (us : List (List UInt8)) : Prop := PL W B p us ∧ Below w.heap.size w W
theorem Sp.next {w W w' : World} {B p : Nat} {us : List (List UInt8)} (h : Sp w W B p us) (hB : B ≤ w.heap.size) (hb : Below W.heap.size W w') : Sp w w' B p us :=
  ⟨h.1.below hb (Nat.le_trans hB h.2.size), h.2.trans (hb.mono h.2.size)⟩

set_option maxHeartbeats 2000000 in
set_option maxRecDepth 1000000 in
theorem placed_any (w : World) (B p : Nat) (s : ByteArray) (h : PL w B p (sfx (bl s))) (hB : B ≤ w.heap.size) (hs : s.size ≤ 1048576) (n : Int) :
    Calls Tryd.prog 65 #[.pointer (some ⟨p, 0, none⟩), .string s, .int .i64 n] w fun e w' => e = .returned (.bool true) ∧ Below w.heap.size w w' := by
  have hS : Sp w w B p (sfx (bl s)) := ⟨h, Below.refl _ _⟩
  have hl : (bl s).length ≤ 1048576 := by rw [bl_len]; exact hs
  have hsl := sfx_len (bl s)
  obtain ⟨k1, u, hu, hk1⟩ := unit_ref s (by omega) n
  obtain ⟨k2, hk2⟩ := byte_ref s (by omega) n
  obtain ⟨k3, hk3⟩ := wide_ref s hs n u hu
  obtain ⟨k4, hk4⟩ := line_ref s hs n u hu
  have c101 := fun W (h : Sp w W B p (sfx (bl s))) => (glossaryref02_Unit.calls k1 s n _ _ W hk1).mono (R' := fun e w' => e = .returned (.tuple #[.int .i64 (u : Nat), .int .i64 (off (sfx (bl s)) u : Nat)]) ∧ Sp w w' B p (sfx (bl s))) (fun e w' ⟨he, hd⟩ => ⟨he, h.next hB hd.below⟩)
  have c64 := fun W (h : Sp w W B p (sfx (bl s))) => (unit_any W B p (bl s) h.1 hl n).mono (R' := fun e w' => e = .returned (.tuple #[.int .i64 (u : Nat), .bool ((off (sfx (bl s)) u : Int) == (clampA (bl s).length n : Int))]) ∧ Sp w w' B p (sfx (bl s))) (fun e w' ⟨j, hj, he, hb⟩ => by
    obtain rfl := hj.unique hu
    exact ⟨he, h.next hB hb⟩)
  have c102 := fun W (h : Sp w W B p (sfx (bl s))) => (glossaryref02_Line.calls k4 s n (lfold 1 1 ((pts (bl s)).take u)).1 (lfold 1 1 ((pts (bl s)).take u)).2 W hk4).mono (R' := fun e w' => e = .returned (.tuple #[.int .i64 (lfold 1 1 ((pts (bl s)).take u)).1, .int .i64 (lfold 1 1 ((pts (bl s)).take u)).2]) ∧ Sp w w' B p (sfx (bl s))) (fun e w' ⟨he, hd⟩ => ⟨he, h.next hB hd⟩)
  have c103 := fun W (h : Sp w W B p (sfx (bl s))) => (line_any W B p (bl s) h.1 (Nat.le_trans hB h.2.size) hl n u hu).mono (R' := fun e w' => e = .returned (.tuple #[.int .i64 (lfold 1 1 ((pts (bl s)).take u)).1, .int .i64 (lfold 1 1 ((pts (bl s)).take u)).2]) ∧ Sp w w' B p (sfx (bl s))) (fun e w' ⟨he, hd⟩ => ⟨he, h.next hB hd⟩)
  have c55 := fun W (h : Sp w W B p (sfx (bl s))) => (byte_any W B p (sfx (bl s)) h.1 (by omega) n).mono (R' := fun e w' => e = .returned (.int .i64 (off (sfx (bl s)) (clampN (sfx (bl s)).length n) : Nat)) ∧ Sp w w' B p (sfx (bl s))) (fun e w' ⟨he, hd⟩ => ⟨he, h.next hB hd⟩)
  have c104 := fun W (h : Sp w W B p (sfx (bl s))) => (glossaryref02_Byte.calls k2 s n _ W hk2).mono (R' := fun e w' => e = .returned (.int .i64 (off (sfx (bl s)) (clampN (sfx (bl s)).length n) : Nat)) ∧ Sp w w' B p (sfx (bl s))) (fun e w' ⟨he, hd⟩ => ⟨he, h.next hB hd.below⟩)
  have c62 := fun W (h : Sp w W B p (sfx (bl s))) => (wide_any W B p (bl s) h.1 (Nat.le_trans hB h.2.size) hl n u hu).mono (R' := fun e w' => e = .returned (.int .i64 (wsum ((pts (bl s)).take u))) ∧ Sp w w' B p (sfx (bl s))) (fun e w' ⟨he, hd⟩ => ⟨he, h.next hB hd⟩)
  have c105 := fun W (h : Sp w W B p (sfx (bl s))) => (glossaryref02_Wide.calls k3 s n _ W hk3).mono (R' := fun e w' => e = .returned (.int .i64 (wsum ((pts (bl s)).take u))) ∧ Sp w w' B p (sfx (bl s))) (fun e w' ⟨he, hd⟩ => ⟨he, h.next hB hd⟩)
  have hcases : (n < 0 ∧ ((off (sfx (bl s)) u : Int) == (clampA (bl s).length n : Int)) = true) ∨ (0 ≤ n ∧ (s.size : Int) ≤ n ∧ ((off (sfx (bl s)) u : Int) == (clampA (bl s).length n : Int)) = true) ∨ (0 ≤ n ∧ n < (s.size : Int) ∧ ((off (sfx (bl s)) u : Int) == (clampA (bl s).length n : Int)) = ((off (sfx (bl s)) u : Int) == n)) := by
    have hbl := bl_len s
    have hol := off_le (bl s) hu.1
    by_cases h0 : n < 0
    · left
      refine ⟨h0, ?_⟩
      have : u = 0 := by
        rcases hu.2.1 with h | h <;> omega
      rw [this, off_zero]
      have : clampA (bl s).length n = 0 := by unfold clampA; omega
      rw [this]; rfl
    · by_cases h1 : (s.size : Int) ≤ n
      · right; left
        refine ⟨by omega, h1, ?_⟩
        have e1 : clampA (bl s).length n = (bl s).length := by unfold clampA; omega
        have e2 : u = (sfx (bl s)).length := by
          rcases Nat.lt_or_ge u (sfx (bl s)).length with h | h
          · have h2 := hu.2.2 h
            have h3 := off_le (bl s) (i := u + 1) (by omega)
            omega
          · have := hu.1; omega
        rw [e1, e2, off_total]
        simp
      · right; right
        refine ⟨by omega, by omega, ?_⟩
        have e1 : (clampA (bl s).length n : Int) = n := by unfold clampA; omega
        rw [e1]
  clear hk1 hk2 hk3 hk4 hl hsl h hu
  generalize off (sfx (bl s)) (clampN (sfx (bl s)).length n) = z1 at c55 c104
  generalize wsum ((pts (bl s)).take u) = z2 at c62 c105
  generalize (lfold 1 1 ((pts (bl s)).take u)).1 = z3 at c102 c103
  generalize (lfold 1 1 ((pts (bl s)).take u)).2 = z4 at c102 c103
  generalize ((off (sfx (bl s)) u : Int) == (clampA (bl s).length n : Int)) = ok at c64 hcases
  generalize off (sfx (bl s)) u = z5 at c101 hcases
  generalize sfx (bl s) = us at c101 c64 c102 c103 c55 c104 c62 c105 hS
  have r0 : ((u : Int) == (u : Int)) = true := by simp
  rcases hcases with ⟨d1, d2⟩ | ⟨d1, d2, d3⟩ | ⟨d1, d2, d3⟩
  · subst d2
    go_enter Tryd.func65, Tryd.ntmps65
    go_wp2_with (first | (go_at_call 101; refine (c101 _ (by assumption)).mono ?_; rintro e w1 ⟨rfl, hS1⟩) | (go_at_call 64; refine (c64 _ (by assumption)).mono ?_; rintro e w1 ⟨rfl, hS1⟩) | (go_at_call 102; refine (c102 _ (by assumption)).mono ?_; rintro e w1 ⟨rfl, hS1⟩) | (go_at_call 103; refine (c103 _ (by assumption)).mono ?_; rintro e w1 ⟨rfl, hS1⟩) | (go_at_call 55; refine (c55 _ (by assumption)).mono ?_; rintro e w1 ⟨rfl, hS1⟩) | (go_at_call 104; refine (c104 _ (by assumption)).mono ?_; rintro e w1 ⟨rfl, hS1⟩) | (go_at_call 62; refine (c62 _ (by assumption)).mono ?_; rintro e w1 ⟨rfl, hS1⟩) | (go_at_call 105; refine (c105 _ (by assumption)).mono ?_; rintro e w1 ⟨rfl, hS1⟩))
    go_ret
    exact ⟨rfl, by first | exact hS1.2⟩
  · subst d3
    go_enter Tryd.func65, Tryd.ntmps65
    go_wp2_with (first | (go_at_call 101; refine (c101 _ (by assumption)).mono ?_; rintro e w1 ⟨rfl, hS1⟩) | (go_at_call 64; refine (c64 _ (by assumption)).mono ?_; rintro e w1 ⟨rfl, hS1⟩) | (go_at_call 102; refine (c102 _ (by assumption)).mono ?_; rintro e w1 ⟨rfl, hS1⟩) | (go_at_call 103; refine (c103 _ (by assumption)).mono ?_; rintro e w1 ⟨rfl, hS1⟩) | (go_at_call 55; refine (c55 _ (by assumption)).mono ?_; rintro e w1 ⟨rfl, hS1⟩) | (go_at_call 104; refine (c104 _ (by assumption)).mono ?_; rintro e w1 ⟨rfl, hS1⟩) | (go_at_call 62; refine (c62 _ (by assumption)).mono ?_; rintro e w1 ⟨rfl, hS1⟩) | (go_at_call 105; refine (c105 _ (by assumption)).mono ?_; rintro e w1 ⟨rfl, hS1⟩))
    go_ret
    exact ⟨rfl, by first | exact hS1.2⟩
  · by_cases d4 : (z5 : Int) = n
    · subst d4
      have d5 : ok = true := by rw [d3]; simp
      subst d5
      clear d3
      go_enter Tryd.func65, Tryd.ntmps65
      go_wp2_with (first | (go_at_call 101; refine (c101 _ (by assumption)).mono ?_; rintro e w1 ⟨rfl, hS1⟩) | (go_at_call 64; refine (c64 _ (by assumption)).mono ?_; rintro e w1 ⟨rfl, hS1⟩) | (go_at_call 102; refine (c102 _ (by assumption)).mono ?_; rintro e w1 ⟨rfl, hS1⟩) | (go_at_call 103; refine (c103 _ (by assumption)).mono ?_; rintro e w1 ⟨rfl, hS1⟩) | (go_at_call 55; refine (c55 _ (by assumption)).mono ?_; rintro e w1 ⟨rfl, hS1⟩) | (go_at_call 104; refine (c104 _ (by assumption)).mono ?_; rintro e w1 ⟨rfl, hS1⟩) | (go_at_call 62; refine (c62 _ (by assumption)).mono ?_; rintro e w1 ⟨rfl, hS1⟩) | (go_at_call 105; refine (c105 _ (by assumption)).mono ?_; rintro e w1 ⟨rfl, hS1⟩))
      go_ret
      exact ⟨rfl, by first | exact hS1.2⟩
    · have d5 : ((z5 : Int) == n) = false := beq_eq_false_iff_ne.2 d4
      have d6 : ok = false := by rw [d3, d5]
      subst d6
      clear d3
      go_enter Tryd.func65, Tryd.ntmps65
      go_wp2_with (first | (go_at_call 101; refine (c101 _ (by assumption)).mono ?_; rintro e w1 ⟨rfl, hS1⟩) | (go_at_call 64; refine (c64 _ (by assumption)).mono ?_; rintro e w1 ⟨rfl, hS1⟩) | (go_at_call 102; refine (c102 _ (by assumption)).mono ?_; rintro e w1 ⟨rfl, hS1⟩) | (go_at_call 103; refine (c103 _ (by assumption)).mono ?_; rintro e w1 ⟨rfl, hS1⟩) | (go_at_call 55; refine (c55 _ (by assumption)).mono ?_; rintro e w1 ⟨rfl, hS1⟩) | (go_at_call 104; refine (c104 _ (by assumption)).mono ?_; rintro e w1 ⟨rfl, hS1⟩) | (go_at_call 62; refine (c62 _ (by assumption)).mono ?_; rintro e w1 ⟨rfl, hS1⟩) | (go_at_call 105; refine (c105 _ (by assumption)).mono ?_; rintro e w1 ⟨rfl, hS1⟩))
      go_ret
      exact ⟨rfl, by first | exact hS1.2⟩
end Go.Proofs.YtbkimhbpcmbflaaDoor.C

/-
  The statement PointsPlaces, walked.
-/
set_option linter.unusedVariables false
set_option linter.unusedSimpArgs false
namespace Go.Proofs.YtbkimhbpcmbflaaDoor.C
open Go Go.RowKit Go.Proofs.YtbkimhbpcmbflaaDoor.M Go.Proofs.YtbkimhbpcmbflaaDoor.E Go.Proofs.YtbkimhbpcmbflaaDoor.PAll Go.Proofs.YtbkimhbpcmbflaaDoorW.PrintWords

def Sp2 (w W : World) (B p q : Nat) (us vs : List (List UInt8)) : Prop := PL W B p us ∧ PL W B q vs ∧ Below w.heap.size w W
theorem Sp2.next {w W w' : World} {B p q : Nat} {us vs : List (List UInt8)} (h : Sp2 w W B p q us vs) (hB : B ≤ w.heap.size) (hb : Below W.heap.size W w') : Sp2 w w' B p q us vs :=
  ⟨h.1.below hb (Nat.le_trans hB h.2.2.size), h.2.1.below hb (Nat.le_trans hB h.2.2.size), h.2.2.trans (hb.mono h.2.2.size)⟩
/-- Measure, as the others read it -/
theorem measure_PL (s : ByteArray) (w : World) (hT : Lib.Utf8Tabs 0 1 w) (hs : s.size ≤ 1048576) :
    Calls Tryd.prog 51 #[.string s] w fun e w' => ∃ p, e = .returned (.pointer (some ⟨p, 0, none⟩)) ∧ PL w' w'.heap.size p (sfx (bl s)) ∧ Below w.heap.size w w' :=
  (measure_any s w hT hs).mono fun e w' ⟨he, hb, v, h1, h2⟩ => ⟨_, he, PL_of h1 h2, hb⟩
theorem of_len (s : ByteArray) (W : World) (hs : s.size ≤ 1048576) : Calls Tryd.prog 24 #[.string s] W fun e w' => ∃ A c, e = .returned (.slice A (sfx (bl s)).length c) ∧ Below W.heap.size W w' := by
  obtain ⟨k, hk⟩ := of_ref s (by omega)
  refine (glossaryref02_Of.calls k s _ W hk).mono fun e w' ⟨v, he, hr, hb⟩ => ?_
  obtain ⟨A, c, rfl⟩ := Kd.R_slice hr
  have : (pts (bl s)).length = (sfx (bl s)).length := by unfold pts; rw [List.length_map]
  rw [this] at he
  exact ⟨A, c, he, hb⟩

set_option maxHeartbeats 2000000 in
set_option maxRecDepth 1000000 in
theorem PointsPlaces_of (w : World) (hT : Lib.Utf8Tabs 0 1 w) (hE : HE w) (s : ByteArray) (hs : s.size ≤ 1048576) (t : ByteArray) (ht : t.size ≤ 1048576) (A : Option Addr) (cap : Nat) (xs : List Int) (hl : xs.length ≤ 9223372036854775806) (hR : Rd w w.heap.size .i64 A xs) :
    Calls Tryd.prog 18 #[.string s, .string t, .slice A xs.length cap] w fun e w' => e = .returned (.bool true) ∧ Below w.heap.size w w' := by
  have hsl := sfx_len (bl s)
  have htl := sfx_len (bl t)
  rw [bl_len] at hsl htl
  have cM1 := measure_PL s w hT hs
  have cM2 := fun W (h : Lib.Utf8Tabs 0 1 W) => measure_PL t W h ht
  obtain ⟨n, hn⟩ : ∃ n, xs.length = n := ⟨_, rfl⟩
  rw [hn]
  have HR := Lib.hid hR
  have Hn := Lib.hid hn
  have hln : n ≤ 9223372036854775806 := by omega
  clear hR hn
  go_enter Tryd.func18, Tryd.ntmps18
  go_wp2_with fail
  refine cM1.mono ?_
  rintro e w1 ⟨p, rfl, hp1, hb1⟩
  have hT1 := tabs_below hT hb1 (Nat.le_refl _)
  go_wp2_with fail
  refine (cM2 _ hT1).mono ?_
  rintro e w2 ⟨q, rfl, hq2, hb2⟩
  have hb12 := hb1.trans (hb2.mono hb1.size)
  have hp2 := (hp1.below hb2 (Nat.le_refl _)).more hb2.size
  have hS : Sp2 w2 w2 w2.heap.size p q (sfx (bl s)) (sfx (bl t)) := ⟨hp2, hq2, Below.refl _ _⟩
  have cUp := fun W (h : Sp2 w2 W w2.heap.size p q (sfx (bl s)) (sfx (bl t))) => (units_any W w2.heap.size p (sfx (bl s)) h.1 (by omega)).mono (R' := fun e w' => e = .returned (.int .i64 ((sfx (bl s)).length : Nat)) ∧ Sp2 w2 w' w2.heap.size p q (sfx (bl s)) (sfx (bl t))) (fun e w' ⟨he, hd⟩ => ⟨he, hd ▸ h⟩)
  have cUq := fun W (h : Sp2 w2 W w2.heap.size p q (sfx (bl s)) (sfx (bl t))) => (units_any W w2.heap.size q (sfx (bl t)) h.2.1 (by omega)).mono (R' := fun e w' => e = .returned (.int .i64 ((sfx (bl t)).length : Nat)) ∧ Sp2 w2 w' w2.heap.size p q (sfx (bl s)) (sfx (bl t))) (fun e w' ⟨he, hd⟩ => ⟨he, hd ▸ h⟩)
  have cOs := fun W (h : Sp2 w2 W w2.heap.size p q (sfx (bl s)) (sfx (bl t))) => (of_len s W hs).mono (R' := fun e w' => ∃ A c, e = .returned (.slice A (sfx (bl s)).length c) ∧ Sp2 w2 w' w2.heap.size p q (sfx (bl s)) (sfx (bl t))) (fun e w' ⟨A, c, he, hd⟩ => ⟨A, c, he, h.next (Nat.le_refl _) hd⟩)
  have cOt := fun W (h : Sp2 w2 W w2.heap.size p q (sfx (bl s)) (sfx (bl t))) => (of_len t W ht).mono (R' := fun e w' => ∃ A c, e = .returned (.slice A (sfx (bl t)).length c) ∧ Sp2 w2 w' w2.heap.size p q (sfx (bl s)) (sfx (bl t))) (fun e w' ⟨A, c, he, hd⟩ => ⟨A, c, he, h.next (Nat.le_refl _) hd⟩)
  have cPp := fun W x (h : Sp2 w2 W w2.heap.size p q (sfx (bl s)) (sfx (bl t))) => (placed_any W w2.heap.size p s h.1 h.2.2.size hs x).mono (R' := fun e w' => e = .returned (.bool true) ∧ Sp2 w2 w' w2.heap.size p q (sfx (bl s)) (sfx (bl t))) (fun e w' ⟨he, hd⟩ => ⟨he, h.next (Nat.le_refl _) hd⟩)
  have cPq := fun W x (h : Sp2 w2 W w2.heap.size p q (sfx (bl s)) (sfx (bl t))) => (placed_any W w2.heap.size q t h.2.1 h.2.2.size ht x).mono (R' := fun e w' => e = .returned (.bool true) ∧ Sp2 w2 w' w2.heap.size p q (sfx (bl s)) (sfx (bl t))) (fun e w' ⟨he, hd⟩ => ⟨he, h.next (Nat.le_refl _) hd⟩)
  obtain ⟨a, ha⟩ : ∃ a, (sfx (bl s)).length = a := ⟨_, rfl⟩
  obtain ⟨b, hb⟩ : ∃ b, (sfx (bl t)).length = b := ⟨_, rfl⟩
  rw [ha] at cUp cOs
  rw [hb] at cUq cOt
  generalize sfx (bl s) = us at cUp cUq cOs cOt cPp cPq hS
  generalize sfx (bl t) = vs at cUp cUq cOs cOt cPp cPq hS
  clear cM1 cM2 hp1 hq2 hp2 ha hb hsl htl hT1
  go_wp2_with fail
  refine (cUp _ hS).mono ?_
  rintro e w3 ⟨rfl, hS3⟩
  go_wp2_with fail
  refine (cOs _ hS3).mono ?_
  rintro e w4 ⟨A4, c4, rfl, hS4⟩
  go_wp2_with fail
  refine (cUq _ hS4).mono ?_
  rintro e w5 ⟨rfl, hS5⟩
  go_wp2_with fail
  refine (cOt _ hS5).mono ?_
  rintro e w6 ⟨A6, c6, rfl, hS6⟩
  clear hS hS3 hS4 hS5
  go_wp2_with fail
  go_loopw [9] (fun kv wr => ∃ k : Nat, kv = .int .i64 k ∧ k ≤ n ∧ Sp2 w2 wr w2.heap.size p q us vs) (fun kv _ => n - (intOf kv).toNat)
  case atStart => exact ⟨0, rfl, Nat.zero_le _, hS6⟩
  case round =>
    obtain ⟨k, rfl, hk, hSr⟩ := hrel
    have hbr := hb12.trans (hSr.2.2.mono hb12.size)
    have hEr : HE wr := hE.below hbr (Nat.le_refl _)
    by_cases hlt : k < n
    · by_cases h60 : k < 60
      · rcases HR.out with h0 | ⟨ad, rfl, hbl, hc⟩
        · have := Hn.out; rw [h0] at this; simp at this; omega
        · obtain ⟨x, hxk⟩ : ∃ x, xs[k]? = some x := ⟨_, List.getElem?_eq_getElem (show k < xs.length by have := Hn.out; omega)⟩
          have hcell : ∀ W, Sp2 w2 W w2.heap.size p q us vs → W.cell? (ad.add k) = some (.int .i64 x) := fun W h => ((hb12.trans (h.2.2.mono hb12.size)).cell (p := ad.add k) (by rw [add_block]; exact hbl)).trans (hc k x hxk)
          have hltI : (k : Int) < n := by omega
          have k1 := hcell _ hSr
          have HC := Lib.hid hcell
          clear hcell hc hxk HR
          go_wp2_with fail
          refine (cPp _ _ hSr).mono ?_
          rintro e w7 ⟨rfl, hS7⟩
          have k2 := HC.out _ hS7
          go_wp2_with fail
          refine (cPq _ _ hS7).mono ?_
          rintro e w8 ⟨rfl, hS8⟩
          have k3 := HC.out _ hS8
          go_wp2_with fail
          refine (cPp _ _ hS8).mono ?_
          rintro e w9 ⟨rfl, hS9⟩
          go_wp2
          go_roundw
          case rel => exact ⟨k + 1, by go_num, by omega, hS9⟩
          case measure => simp [intOf]; omega
      · go_wp2_with fail
        refine (works_any _ hEr).mono ?_
        rintro e w7 ⟨rfl, hb7⟩
        go_wp2
        go_ret
        exact ⟨rfl, hbr.trans (hb7.mono hbr.size)⟩
    · go_wp2_with fail
      refine (works_any _ hEr).mono ?_
      rintro e w7 ⟨rfl, hb7⟩
      go_wp2
      go_ret
      exact ⟨rfl, hbr.trans (hb7.mono hbr.size)⟩
theorem law_PointsPlaces (w : World) (hT : Lib.Utf8Tabs 0 1 w) (hE : HE w) (s : ByteArray) (hs : s.size ≤ 140737488351232) (hsb : s.size ≤ 1048576) (t : ByteArray) (ht : t.size ≤ 140737488351232) (htb : t.size ≤ 1048576)
    (a : Option Addr) (len cap : Nat) (zs : List Int) (h : IsRow .i64 w a len cap zs) (hy : len * 8 ≤ 140737488351232) :
    Calls Tryd.prog 18 #[.string s, .string t, .slice a len cap] w fun e w' => e = .returned (.bool true) ∧ Below w.heap.size w w' := by
  obtain ⟨hl, hR, hc, hw⟩ := h.rd
  have := PointsPlaces_of w hT hE s hsb t htb a cap (zs.take len) (by omega) hR
  rw [hl] at this
  exact this
end Go.Proofs.YtbkimhbpcmbflaaDoor.C

/-
  The statement PointsMutual, walked.
-/
set_option linter.unusedVariables false
set_option linter.unusedSimpArgs false
namespace Go.Proofs.YtbkimhbpcmbflaaDoor.C
open Go Go.RowKit Go.Proofs.YtbkimhbpcmbflaaDoor.M Go.Proofs.YtbkimhbpcmbflaaDoor.E Go.Proofs.YtbkimhbpcmbflaaDoor.PAll Go.Proofs.YtbkimhbpcmbflaaDoorW.PrintWords

theorem wsum_bounds : ∀ xs : List Int, 0 ≤ wsum xs ∧ wsum xs ≤ 2 * xs.length
  | [] => by simp [wsum]
  | x :: xs => by
    have := wsum_bounds xs
    rw [wsum, List.length_cons]
    split <;> omega
theorem wide_dc {t : List UInt8} (h : t ≠ []) : (65535 < (pt t : Int) ∧ (pt t : Int) ≤ 1114111) ↔ 65535 < (dc t : Int) := by
  have hd := dc_lt t
  cases hi : ill t with
  | true =>
    have h1 := (ill_b0 h hi).1
    have e : pt t = 1114112 + b0 t := by simp [pt, hi]
    have e2 : dc t = 65533 ∧ dw t = 1 := by simpa [ill] using hi
    omega
  | false =>
    have e : pt t = dc t := pt_of_ok hi
    omega
theorem qpts_all (l : List UInt8) : qpts (sfx l) = pts l := rfl
set_option maxHeartbeats 2000000 in
set_option maxRecDepth 1000000 in
theorem pairs_any (s : ByteArray) (w : World) (hs : s.size ≤ 1048576) :
    Calls Tryd.prog 63 #[.string s] w fun e w' => e = .returned (.int .i64 (wsum (pts (bl s)))) ∧ Below w.heap.size w w' := by
  have hbl := bl_len s
  have hsl := sfx_len (bl s)
  go_enter Tryd.func63, Tryd.ntmps63
  go_wp2
  go_loopw [3] (fun nv wr => ∃ (pos : Nat) (pre : List (List UInt8)), nv = .int .i64 (wsum (qpts pre)) ∧ Hid (sfx (bl s) = pre ++ sfx ((bl s).drop pos)) ∧ wr.heap[w.heap.size]? = some (.stringIter s pos) ∧ Below w.heap.size w wr) (fun _ wr => s.size - wr.iterPos w.heap.size)
  case atStart =>
    refine ⟨0, [], rfl, by simp [Hid], ?_, ?_⟩
    · simpa using World.iter_heap w s 0
    · exact (Below.refl _ w).alloc (Nat.le_refl _) (.stringIter s 0)
  case round =>
    obtain ⟨pos, pre, rfl, hpre, hit, hbw⟩ := hrel
    have hpl : pre.length ≤ 1048576 := by
      have := congrArg List.length hpre.out
      rw [List.length_append] at this
      omega
    have hwb := wsum_bounds (qpts pre)
    have hql : (qpts pre).length = pre.length := by simp [qpts]
    by_cases hp : pos < s.size
    · obtain ⟨t, ht⟩ : ∃ t, (bl s).drop pos = t := ⟨_, rfl⟩
      have hne : t ≠ [] := by rw [← ht]; exact bl_nonempty hp
      have hd : Utf8.decode s pos = (dc t, dw t) := by rw [← ht]; exact (Lib.decodeL_drop s pos).symm
      have hnx : ∀ ty, (Instr.next (.pointer (some ⟨w.heap.size, 0, none⟩)) true ty).run Tryd.prog wr = .ok (.tuple #[.bool true, .int .i64 pos, .int .i32 (dc t : Nat)]) (wr.iterAt w.heap.size s (pos + dw t)) := fun ty => by
        have := Lib.run_next_any_at (P := Tryd.prog) wr w.heap.size s pos ty hit hp
        rw [hd] at this
        exact this
      have hw1 := dw_pos hne
      have hpre2 : Hid (sfx (bl s) = (pre ++ [t]) ++ sfx ((bl s).drop (pos + dw t))) := by
        show sfx (bl s) = _
        rw [← List.drop_drop, ht, hpre.out, ht, sfx_cons hne]; simp
      have Hit2 := Lib.hid (Lib.iterAt_heap wr w.heap.size s pos (pos + dw t) hit)
      have hbw2 : Below w.heap.size w (wr.iterAt w.heap.size s (pos + dw t)) := Lib.below_iterAt hbw (Nat.le_refl _) s _
      have Hhit := Lib.hid hit
      have eq1 : Hid (wsum (qpts (pre ++ [t])) = wsum (qpts pre) + (if 65535 < (pt t : Int) ∧ (pt t : Int) ≤ 1114111 then 2 else 1)) := by
        show _ = _
        have : qpts (pre ++ [t]) = qpts pre ++ [(pt t : Int)] := by simp [qpts]
        rw [this, wsum_append, wsum, wsum]; omega
      have Hwd := Lib.hid (wide_dc hne)
      have Hm := Lib.hid (show s.size - (pos + dw t) < s.size - pos by omega)
      by_cases hc : 65535 < (dc t : Int)
      · have e2 : Hid (wsum (qpts (pre ++ [t])) = wsum (qpts pre) + 1 + 1) := by
          show _ = _
          rw [eq1.out, if_pos (Hwd.out.2 hc)]; omega
        clear hd hit ht eq1 Hwd hne hbl hsl
        go_wp2
        go_roundw
        case rel => exact ⟨pos + dw t, pre ++ [t], by rw [e2.out], hpre2, Hit2.out, hbw2⟩
        case measure =>
          simp only [World.iterPos, Hit2.out, Hhit.out]
          exact Hm.out
      · have hc' : (dc t : Int) ≤ 65535 := by omega
        have e2 : Hid (wsum (qpts (pre ++ [t])) = wsum (qpts pre) + 1) := by
          show _ = _
          rw [eq1.out, if_neg (fun hh => hc (Hwd.out.1 hh))]
        clear hd hit ht eq1 Hwd hne hbl hsl hc
        go_wp2
        go_roundw
        case rel => exact ⟨pos + dw t, pre ++ [t], by rw [e2.out], hpre2, Hit2.out, hbw2⟩
        case measure =>
          simp only [World.iterPos, Hit2.out, Hhit.out]
          exact Hm.out
    · have hnx : ∀ ty, (Instr.next (.pointer (some ⟨w.heap.size, 0, none⟩)) true ty).run Tryd.prog wr = _ := fun ty => Lib.run_next_end_at wr w.heap.size s pos ty hit hp
      have hdone : Hid (pts (bl s) = qpts pre) := by
        show _ = _
        have h1 := hpre.out
        rw [List.drop_of_length_le (by omega), sfx_nil, List.append_nil] at h1
        rw [← qpts_all, h1]
      go_wp2
      go_ret
      exact ⟨by rw [hdone.out]; rfl, by assumption⟩
end Go.Proofs.YtbkimhbpcmbflaaDoor.C

/-
  The statement PointsMutual, walked.
-/
set_option linter.unusedVariables false
set_option linter.unusedSimpArgs false
namespace Go.Proofs.YtbkimhbpcmbflaaDoor.C
open Go Go.RowKit Go.Proofs.YtbkimhbpcmbflaaDoor.M Go.Proofs.YtbkimhbpcmbflaaDoor.E Go.Proofs.YtbkimhbpcmbflaaDoor.PAll Go.Proofs.YtbkimhbpcmbflaaDoorW.PrintWords

theorem IsU_end (l : List UInt8) : IsU l (l.length : Nat) (sfx l).length := by
  refine ⟨Nat.le_refl _, .inr ?_, fun h => by omega⟩
  rw [off_total]
  omega
theorem IsU_off {l : List UInt8} {k : Nat} (hk : k ≤ (sfx l).length) : IsU l (off (sfx l) k : Nat) k := by
  refine ⟨hk, .inr (by omega), fun h => ?_⟩
  have := off_step h
  omega
theorem off_four {l : List UInt8} {k : Nat} (hk : k < (sfx l).length) : off (sfx l) (k + 1) ≤ off (sfx l) k + 4 := by
  obtain ⟨t, ht⟩ : ∃ t, (sfx l)[k]? = some t := ⟨_, List.getElem?_eq_getElem hk⟩
  have := d_facts (sfx_ne (List.mem_of_getElem? ht))
  rw [off_succ ht]
  omega

set_option maxHeartbeats 2000000 in
set_option maxRecDepth 1000000 in
theorem law_PointsMutual (w : World) (hT : Lib.Utf8Tabs 0 1 w) (hE : HE w) (s : ByteArray) (hs0 : s.size ≤ 140737488351232) (hs : s.size ≤ 1048576) :
    Calls Tryd.prog 17 #[.string s] w fun e w' => e = .returned (.bool true) ∧ Below w.heap.size w w' := by
  have hsl := sfx_len (bl s)
  have hbl := bl_len s
  have hl : (bl s).length ≤ 1048576 := by omega
  have cM1 := measure_PL s w hT hs
  have cP := fun W => pairs_any s W hs
  go_enter Tryd.func17, Tryd.ntmps17
  go_wp2_with fail
  refine cM1.mono ?_
  rintro e w1 ⟨p, rfl, hp1, hb1⟩
  have hS : Sp w1 w1 w1.heap.size p (sfx (bl s)) := ⟨hp1, Below.refl _ _⟩
  have cU := fun W (h : Sp w1 W w1.heap.size p (sfx (bl s))) => (units_any W w1.heap.size p (sfx (bl s)) h.1 (by omega)).mono (R' := fun e w' => e = .returned (.int .i64 ((sfx (bl s)).length : Nat)) ∧ Sp w1 w' w1.heap.size p (sfx (bl s))) (fun e w' ⟨he, hd⟩ => ⟨he, hd ▸ h⟩)
  have cB := fun W (x : Int) (c : Nat) (hc : clampN (sfx (bl s)).length x = c) (h : Sp w1 W w1.heap.size p (sfx (bl s))) => (byte_any W w1.heap.size p (sfx (bl s)) h.1 (by omega) x).mono (R' := fun e w' => e = .returned (.int .i64 (off (sfx (bl s)) c : Nat)) ∧ Sp w1 w' w1.heap.size p (sfx (bl s))) (fun e w' ⟨he, hd⟩ => ⟨hc ▸ he, h.next (Nat.le_refl _) hd⟩)
  have cW := fun W (h : Sp w1 W w1.heap.size p (sfx (bl s))) => (wide_any W w1.heap.size p (bl s) h.1 h.2.size hl _ _ (IsU_end (bl s))).mono (R' := fun e w' => e = .returned (.int .i64 (wsum (pts (bl s)))) ∧ Sp w1 w' w1.heap.size p (sfx (bl s))) (fun e w' ⟨he, hd⟩ => ⟨by
    rw [List.take_of_length_le (by unfold pts; rw [List.length_map]; exact Nat.le_refl _)] at he; exact he, h.next (Nat.le_refl _) hd⟩)
  have cPr := fun W (h : Sp w1 W w1.heap.size p (sfx (bl s))) => (cP W).mono (R' := fun e w' => e = .returned (.int .i64 (wsum (pts (bl s)))) ∧ Sp w1 w' w1.heap.size p (sfx (bl s))) (fun e w' ⟨he, hd⟩ => ⟨he, h.next (Nat.le_refl _) hd⟩)
  have cI := fun W (k : Nat) (hk : k ≤ (sfx (bl s)).length) (h : Sp w1 W w1.heap.size p (sfx (bl s))) => (unit_any W w1.heap.size p (bl s) h.1 hl (off (sfx (bl s)) k : Nat)).mono (R' := fun e w' => e = .returned (.tuple #[.int .i64 (k : Nat), .bool true]) ∧ Sp w1 w' w1.heap.size p (sfx (bl s))) (fun e w' ⟨j, hj, he, hd⟩ => by
    obtain rfl := hj.unique (IsU_off hk)
    have hle := off_le (bl s) hk
    have : clampA (bl s).length (off (sfx (bl s)) j : Nat) = off (sfx (bl s)) j := by unfold clampA; omega
    rw [this] at he
    refine ⟨by rw [he]; simp, h.next (Nat.le_refl _) hd⟩)
  have hB0 := fun W => cB W 0 0 (by unfold clampN; omega)
  have hBN := fun W => cB W ((sfx (bl s)).length : Nat) (sfx (bl s)).length (by unfold clampN; omega)
  have hBk := fun W (k : Nat) (hk : k ≤ (sfx (bl s)).length) => cB W (k : Nat) k (by unfold clampN; omega)
  have hBp := fun W (k : Nat) (h0 : 0 < k) (hk : k ≤ (sfx (bl s)).length) => cB W ((k : Int) - 1) (k - 1) (by unfold clampN; omega)
  rw [hbl] at cW
  rw [off_zero] at hB0
  rw [off_total, hbl] at hBN
  have hst := fun k (hk : k + 1 ≤ (sfx (bl s)).length) => off_step (l := bl s) (i := k) (by omega)
  have hfo := fun k (hk : k + 1 ≤ (sfx (bl s)).length) => off_four (l := bl s) (k := k) (by omega)
  have hof := fun k (hk : k ≤ (sfx (bl s)).length) => off_le (bl s) (i := k) hk
  obtain ⟨n, hn⟩ : ∃ n, (sfx (bl s)).length = n := ⟨_, rfl⟩
  have hn20 : n ≤ 1048576 := by omega
  rw [hn] at cU cI hBN hBk hBp hst hfo hof
  rw [hbl] at hof
  generalize wsum (pts (bl s)) = z at cW cPr
  generalize hus : sfx (bl s) = us at cU cI hB0 hBN hBk hBp hS cW cPr hst hfo hof
  have Hst := Lib.hid hst
  have Hfo := Lib.hid hfo
  have Hof := Lib.hid hof
  clear cB cM1 cP hn hus hsl hl hbl hp1 hst hfo hof
  go_wp2_with fail
  refine (hB0 _ hS).mono ?_
  rintro e w2 ⟨rfl, hS2⟩
  go_wp2_with fail
  refine (cU _ hS2).mono ?_
  rintro e w3 ⟨rfl, hS3⟩
  go_wp2_with fail
  refine (hBN _ hS3).mono ?_
  rintro e w4 ⟨rfl, hS4⟩
  go_wp2_with fail
  refine (cW _ hS4).mono ?_
  rintro e w5 ⟨rfl, hS5⟩
  go_wp2_with fail
  refine (cPr _ hS5).mono ?_
  rintro e w6 ⟨rfl, hS6⟩
  clear hS hS2 hS3 hS4 hS5
  go_wp2_with fail
  go_loopw [4] (fun kv wr => ∃ k : Nat, kv = .int .i64 k ∧ k ≤ n + 1 ∧ Sp w1 wr w1.heap.size p us) (fun kv _ => n + 1 - (intOf kv).toNat)
  case atStart => exact ⟨0, rfl, Nat.zero_le _, hS6⟩
  case round =>
    obtain ⟨k, rfl, hk, hSr⟩ := hrel
    go_wp2_with fail
    refine (cU _ hSr).mono ?_
    rintro e w7 ⟨rfl, hS7⟩
    by_cases hlt : k ≤ n
    · have hltI : (k : Int) ≤ n := by omega
      go_wp2_with fail
      refine (hBk _ k hlt hS7).mono ?_
      rintro e w8 ⟨rfl, hS8⟩
      go_wp2_with fail
      refine (cI _ k hlt hS8).mono ?_
      rintro e w9 ⟨rfl, hS9⟩
      by_cases h0 : k = 0
      · subst h0
        go_wp2
        go_roundw
        case rel => exact ⟨1, by go_num, by omega, hS9⟩
        case measure => simp [intOf]
      · have h0k : 0 < k := by omega
        have h0I : (0 : Int) < (k : Int) := by omega
        have hk1 : k - 1 + 1 = k := by omega
        have hs1 := Hst.out (k - 1) (by omega)
        have hs2 := Hfo.out (k - 1) (by omega)
        have hs3 := Hof.out k hlt
        rw [hk1] at hs1 hs2
        obtain ⟨x, hx⟩ : ∃ x, off us k = x := ⟨_, rfl⟩
        obtain ⟨y, hy⟩ : ∃ y, off us (k - 1) = y := ⟨_, rfl⟩
        have dB := fun W => hBk W k hlt
        have dP := fun W => hBp W k h0k hlt
        rw [hx] at hs1 hs2 hs3 dB
        rw [hy] at hs1 hs2 dP
        have hs1I : (y : Int) < (x : Int) := by omega
        have hs2I : (x : Int) ≤ (y : Int) + 4 := by omega
        have hw : wrap64 ((k : Int) - 1) = (k : Int) - 1 := w64 (by omega) (by omega)
        clear Hst Hfo Hof hk1 hx hy h0 h0k
        go_wp2_with fail
        refine (dB _ hS9).mono ?_
        rintro e w10 ⟨rfl, hS10⟩
        go_wp2_with fail
        refine (dP _ hS10).mono ?_
        rintro e w11 ⟨rfl, hS11⟩
        go_wp2_with fail
        refine (dB _ hS11).mono ?_
        rintro e w12 ⟨rfl, hS12⟩
        go_wp2_with fail
        refine (dP _ hS12).mono ?_
        rintro e w13 ⟨rfl, hS13⟩
        go_wp2
        go_roundw
        case rel => exact ⟨k + 1, by go_num, by omega, hS13⟩
        case measure => simp [intOf]; omega
    · have hgt : (n : Int) < (k : Int) := by omega
      have hb7 := hb1.trans (hS7.2.mono hb1.size)
      have hE7 : HE w7 := hE.below hb7 (Nat.le_refl _)
      go_wp2_with fail
      refine (works_any _ hE7).mono ?_
      rintro e w8 ⟨rfl, hb8⟩
      go_wp2
      go_ret
      exact ⟨rfl, hb7.trans (hb8.mono hb7.size)⟩
end Go.Proofs.YtbkimhbpcmbflaaDoor.C
