/-
  The document's answers of glossaryref01, as printed, in plain words: Wide, number, Decode, Before.
-/
import Derived.Test.YtbkimhbpcmbflaaDoorQ1
import Derived.Test.YtbkimhbpcmbflaaDoorUU
set_option linter.unusedVariables false
set_option linter.unusedSimpArgs false
set_option maxRecDepth 100000
namespace Go.Proofs.YtbkimhbpcmbflaaDoor.C
open Go Go.RowKit Go.Proofs.YtbkimhbpcmbflaaDoor.M Go.Proofs.YtbkimhbpcmbflaaDoor.PAll Go.Proofs.YtbkimhbpcmbflaaDoorW.PrintWords

theorem wide_ref (s : ByteArray) (hs : s.size ≤ 140737488351232) (p : Nat) (hp : p < s.size) (k : Nat) (hk : 4 ≤ k) : glossaryref01_Wide.f k s p = some (((if ill ((bl s).drop p) = true then 0 else dw ((bl s).drop p)) : Nat) : Int) := by
  unfold glossaryref01_Wide.f
  rw [begun_ref s hs p hp k hk]
  simp only [Option.bind_some]
  rcases ill_or (bl_nonempty hp) with ⟨a, b, _⟩ | ⟨a, b, c, d, _⟩
  · rw [if_pos a]
    rcases b with b | b
    · rw [if_neg (by omega)]; rfl
    · have := bg_nb ((bl s).drop p)
      rw [if_pos (by omega), b]
  · have hn : ¬ ill ((bl s).drop p) = true := by rw [a]; decide
    rw [if_neg hn, if_pos (by omega), d]
theorem num_end (k : Nat) (x : ByteArray) (v : Int) (i : Nat) (h : x.size ≤ i) : glossaryref01_number.l0 (k + 1) x v i = some v := by
  simp only [glossaryref01_number.l0]
  rw [if_neg (by omega)]
theorem tmod_nat (a b : Nat) : Int.tmod ((a : Nat) : Int) ((b : Nat) : Int) = ((a % b : Nat) : Int) := by
  rw [Int.tmod_eq_emod_of_nonneg (by omega)]; omega
theorem num_next (k : Nat) (x : ByteArray) (v i : Nat) (h0 : 1 ≤ i) (hi : i < x.size) (h2 : 2 ≤ x.size) (h4 : x.size ≤ 4) (hv : v ≤ 32767) :
    glossaryref01_number.l0 (k + 1) x v i = glossaryref01_number.l0 k x ((v * 64 + M.bt (bl x) i % 64 : Nat) : Int) ((i + 1 : Nat) : Int) := by
  have hb := M.bt_lt (bl x) i
  have e1 : wrap32 ((v : Int) * 64) = ((v * 64 : Nat) : Int) := by rw [w32 (by omega) (by omega)]; omega
  have e2 : wrap32 ((M.bt (bl x) i : Nat) : Int) = ((M.bt (bl x) i : Nat) : Int) := w32 (by omega) (by omega)
  have e3 : Int.tmod ((M.bt (bl x) i : Nat) : Int) 64 = ((M.bt (bl x) i % 64 : Nat) : Int) := tmod_nat _ 64
  have e4 : wrap32 (((v * 64 : Nat) : Int) + ((M.bt (bl x) i % 64 : Nat) : Int)) = ((v * 64 + M.bt (bl x) i % 64 : Nat) : Int) := by rw [w32 (by omega) (by omega)]; omega
  have e5 : wrap64 ((i : Int) + 1) = ((i + 1 : Nat) : Int) := by rw [w64 (by omega) (by omega)]; omega
  have c1 : (i : Int) < (x.size : Int) := by omega
  have c2 : ¬ ((x.size : Int) = 1) := by omega
  have c3 : (i : Int) > 0 := by omega
  have c4 : 0 ≤ (i : Int) := by omega
  simp only [glossaryref01_number.l0]
  rw [if_pos c1, if_neg c2, if_pos c3, if_pos c4, bt_in hi, e1, e2, e3, e4, e5]
def headBits (w b : Nat) : Nat := if w = 1 then b else if w = 2 then b % 32 else if w = 3 then b % 16 else b % 8
theorem num_first (k : Nat) (x : ByteArray) (h1 : 1 ≤ x.size) (h4 : x.size ≤ 4) :
    glossaryref01_number.l0 (k + 1) x 0 0 = glossaryref01_number.l0 k x ((headBits x.size (M.bt (bl x) 0) : Nat) : Int) ((1 : Nat) : Int) := by
  have hb := M.bt_lt (bl x) 0
  have e2 : wrap32 ((M.bt (bl x) 0 : Nat) : Int) = ((M.bt (bl x) 0 : Nat) : Int) := w32 (by omega) (by omega)
  have e5 : wrap64 ((0 : Int) + 1) = ((1 : Nat) : Int) := by rw [w64 (by omega) (by omega)]; rfl
  have hbt := bt_in (s := x) (p := 0) h1
  rw [show ((0 : Nat) : Int) = 0 from rfl] at hbt
  have t32 : Int.tmod ((M.bt (bl x) 0 : Nat) : Int) 32 = ((M.bt (bl x) 0 % 32 : Nat) : Int) := tmod_nat _ 32
  have t16 : Int.tmod ((M.bt (bl x) 0 : Nat) : Int) 16 = ((M.bt (bl x) 0 % 16 : Nat) : Int) := tmod_nat _ 16
  have t8 : Int.tmod ((M.bt (bl x) 0 : Nat) : Int) 8 = ((M.bt (bl x) 0 % 8 : Nat) : Int) := tmod_nat _ 8
  have c1 : (0 : Int) < (x.size : Int) := by omega
  have c3 : ¬ ((0 : Int) > 0) := by omega
  have c4 : (0 : Int) ≤ 0 := by omega
  have key : x.size = 1 ∨ x.size = 2 ∨ x.size = 3 ∨ x.size = 4 := by omega
  simp only [glossaryref01_number.l0, headBits]
  rcases key with h | h | h | h
  · have d1 : (x.size : Int) = 1 := by omega
    rw [if_pos c1, if_pos d1, if_pos c4, hbt, e2, e5, if_pos h]
  · have d1 : ¬ (x.size : Int) = 1 := by omega
    have d2 : (x.size : Int) = 2 := by omega
    have n1 : ¬ x.size = 1 := by omega
    rw [if_pos c1, if_neg d1, if_neg c3, if_pos d2, if_pos c4, hbt, e2, t32, e5, if_neg n1, if_pos h]
  · have d1 : ¬ (x.size : Int) = 1 := by omega
    have d2 : ¬ (x.size : Int) = 2 := by omega
    have d3 : (x.size : Int) = 3 := by omega
    have n1 : ¬ x.size = 1 := by omega
    have n2 : ¬ x.size = 2 := by omega
    rw [if_pos c1, if_neg d1, if_neg c3, if_neg d2, if_pos d3, if_pos c4, hbt, e2, t16, e5, if_neg n1, if_neg n2, if_pos h]
  · have d1 : ¬ (x.size : Int) = 1 := by omega
    have d2 : ¬ (x.size : Int) = 2 := by omega
    have d3 : ¬ (x.size : Int) = 3 := by omega
    have n1 : ¬ x.size = 1 := by omega
    have n2 : ¬ x.size = 2 := by omega
    have n3 : ¬ x.size = 3 := by omega
    rw [if_pos c1, if_neg d1, if_neg c3, if_neg d2, if_neg d3, if_pos c4, hbt, e2, t8, e5, if_neg n1, if_neg n2, if_neg n3]
/-- the number of a character, out of its bytes -/
theorem number_ref (x : ByteArray) (hne : bl x ≠ []) (hi : ill (bl x) = false) (hw : dw (bl x) = x.size) (k : Nat) (hk : 6 ≤ k) : glossaryref01_number.f k x = some ((dc (bl x) : Nat) : Int) := by
  obtain ⟨k, rfl⟩ : ∃ m, k = m + 1 + 1 + 1 + 1 + 1 := ⟨k - 5, by omega⟩
  rcases ill_or hne with ⟨a, _⟩ | ⟨_, b, c, d, e⟩
  · rw [hi] at a; cases a
  · have h4 := nb_le (bl x)
    have hn : nb (bl x) = x.size := by omega
    rw [hn] at e c h4
    have b0 := M.bt_lt (bl x) 0
    have b1 := M.bt_lt (bl x) 1
    have b2 := M.bt_lt (bl x) 2
    unfold glossaryref01_number.f
    rw [num_first _ x c h4]
    have key : x.size = 1 ∨ x.size = 2 ∨ x.size = 3 ∨ x.size = 4 := by omega
    rcases key with h | h | h | h
    · rw [num_end _ _ _ _ (by omega), e, h]; rfl
    · rw [num_next _ _ _ _ (by omega) (by omega) (by omega) h4 (by rw [h]; unfold headBits; simp; omega), num_end _ _ _ _ (by omega), e, h]; rfl
    · rw [num_next _ _ _ _ (by omega) (by omega) (by omega) h4 (by rw [h]; unfold headBits; simp; omega), num_next _ _ _ _ (by omega) (by omega) (by omega) h4 (by rw [h]; unfold headBits; simp; omega), num_end _ _ _ _ (by omega), e, h]
      unfold headBits
      simp only [Nat.reduceEqDiff, if_false, if_true, Nat.reduceAdd]
      congr 1; omega
    · rw [num_next _ _ _ _ (by omega) (by omega) (by omega) h4 (by rw [h]; unfold headBits; simp; omega), num_next _ _ _ _ (by omega) (by omega) (by omega) h4 (by rw [h]; unfold headBits; simp; omega), num_next _ _ _ _ (by omega) (by omega) (by omega) h4 (by rw [h]; unfold headBits; simp; omega), num_end _ _ _ _ (by omega), e, h]
      unfold headBits
      simp only [Nat.reduceEqDiff, if_false, if_true, Nat.reduceAdd]
      congr 1; omega
theorem dc_take {r : List UInt8} (hr : r ≠ []) (hi : ill r = false) : dc (r.take (dw r)) = dc r ∧ dw (r.take (dw r)) = dw r ∧ ill (r.take (dw r)) = false := by
  have hok := okc_dc hr
  have e := take_enc hr hi
  have h1 := dc_enc hok []
  have h2 := dw_enc hok []
  rw [List.append_nil] at h1 h2
  have hl : (r.take (dw r)).length = dw r := by rw [List.length_take]; have := dw_len hr; omega
  rw [e] at hl ⊢
  refine ⟨h1, by rw [h2, hl], ?_⟩
  cases hx : ill (enc (dc r)) with
  | false => rfl
  | true =>
    have hh : dc (enc (dc r)) = 65533 ∧ dw (enc (dc r)) = 1 := by simpa [ill] using hx
    rw [h1, h2, hl] at hh
    have : ill r = true := by simp [ill, hh.1, hh.2]
    rw [hi] at this; cases this
/-- Decode, in plain words -/
theorem decode_ref (s : ByteArray) (hs : s.size ≤ 140737488351232) (a : Int) (ha : -9223372036854775808 ≤ a ∧ a ≤ 9223372036854775807) : glossaryref01_Decode.f 8 s a = some ((decU (bl s) a).1, (decU (bl s) a).2) := by
  unfold glossaryref01_Decode.f decU
  rw [bl_len]
  by_cases h0 : a < 0
  · rw [if_pos h0, if_pos (.inl h0)]
    simp only [glossaryref01_Decode.j0]
    rfl
  · rw [if_neg h0]
    by_cases h1 : (s.size : Int) ≤ a
    · rw [if_pos (.inr h1), decide_eq_true (show a ≥ (s.size : Int) from h1)]
      simp only [glossaryref01_Decode.j0]
      rfl
    · rw [if_neg (by omega), decide_eq_false (by omega)]
      obtain ⟨p, rfl⟩ : ∃ p : Nat, a = p := ⟨a.toNat, by omega⟩
      have hp : p < s.size := by omega
      have hne := bl_nonempty hp
      have hwl := dw_len hne
      have hw1 := dw_pos hne
      have hn4 := d_facts hne
      rw [List.length_drop, bl_len] at hwl
      simp only [glossaryref01_Decode.j0]
      rw [if_neg (by decide), wide_ref s hs p hp 7 (by omega), Int.toNat_natCast]
      simp only [Option.bind_some]
      cases hi : ill ((bl s).drop p) with
      | true =>
        have hh : dc ((bl s).drop p) = 65533 ∧ dw ((bl s).drop p) = 1 := by simpa [ill] using hi
        rw [if_pos rfl, if_pos (by rfl), hh.1, hh.2]; rfl
      | false =>
        obtain ⟨d, hd⟩ : ∃ d, dw ((bl s).drop p) = d := ⟨_, rfl⟩
        have e1 : (p : Int) + ((d : Nat) : Int) = ((p + d : Nat) : Int) := by omega
        have hw : wrap64 ((p : Int) + ((d : Nat) : Int)) = ((p + d : Nat) : Int) := by rw [w64 (by omega) (by omega)]; omega
        have hx : bl (s.extract p (p + d)) = ((bl s).drop p).take d := by rw [bl_cut (by omega), List.drop_take]; congr 1; omega
        obtain ⟨t1, t2, t3⟩ := dc_take hne hi
        rw [hd] at t1 t2 t3
        have hsz : (s.extract p (p + d)).size = d := by simp; omega
        have hnum := number_ref (s.extract p (p + d)) (by rw [hx]; intro e; have := congrArg List.length e; rw [List.length_take, List.length_drop, bl_len] at this; simp at this; omega) (by rw [hx]; exact t3) (by rw [hx, t2, hsz]) 7 (by omega)
        rw [hx, t1] at hnum
        have e0 : (if false = true then 0 else dw ((bl s).drop p)) = d := by rw [if_neg (by decide)]; exact hd
        rw [e0, if_neg (by omega), hw, if_pos (by omega), if_pos (by omega), if_pos (by omega)]
        simp only [Int.toNat_natCast]
        rw [hnum]
        simp only [Option.bind_some]
        rw [hd]
theorem ends_iff {l : List UInt8} {m v : Nat} (hm : m ≤ l.length) (hv : v ≤ m) (h1 : 1 ≤ v) : endsC (l.take m) v ↔ (ill (l.drop (m - v)) = false ∧ dw (l.drop (m - v)) = v) := by
  have hne : l.drop (m - v) ≠ [] := by intro e; have := congrArg List.length e; simp at this; omega
  have hl : (l.take m).length = m := by rw [List.length_take]; omega
  have hcut : (l.take m).drop (m - v) = (l.drop (m - v)).take v := by rw [List.drop_take]; congr 1; omega
  have hbt := bg_take (l := l.drop (m - v)) h1
  constructor
  · intro h
    obtain ⟨w1, w2⟩ := h.whole hm
    rcases ill_or hne with ⟨_, a, _⟩ | ⟨a, _, _, d, _⟩
    · omega
    · exact ⟨a, by omega⟩
  · rintro ⟨a, b⟩
    rcases ill_or hne with ⟨c, _⟩ | ⟨_, c, _, d, _⟩
    · rw [a] at c; cases c
    · refine ⟨by omega, h1, ?_, ?_⟩
      · rw [hl, hcut, hbt.2]; omega
      · rw [hl, hcut, hbt.1]; omega
/-- what Before answers -/
def befU (l : List UInt8) (a : Int) : Int × Int := if a < 1 ∨ (l.length : Int) < a then (65533, 0) else (((Lib.decodeLastL (l.take a.toNat)).1 : Nat), ((Lib.decodeLastL (l.take a.toNat)).2 : Nat))
theorem before_l0 (s : ByteArray) (hs : s.size ≤ 140737488351232) (a : Nat) (ha1 : 1 ≤ a) (ha : a ≤ s.size) : ∀ (d w k : Nat), w + d = 5 → 1 ≤ w → (∀ v, v < w → ¬ endsC ((bl s).take a) v) → 2 * d + 8 ≤ k →
    glossaryref01_Before.l0 k s a w = some ((((Lib.decodeLastL ((bl s).take a)).1 : Nat) : Int), (((Lib.decodeLastL ((bl s).take a)).2 : Nat) : Int)) := by
  have hbl := bl_len s
  have hne : (bl s).take a ≠ [] := by intro e; have := congrArg List.length e; rw [List.length_take, hbl, List.length_nil] at this; omega
  have hlen : ((bl s).take a).length = a := by rw [List.length_take, hbl]; omega
  have hor := decodeLast_or hne
  have hout : (∀ v, ¬ endsC ((bl s).take a) v) → some ((65533 : Int), (1 : Int)) = some ((((Lib.decodeLastL ((bl s).take a)).1 : Nat) : Int), (((Lib.decodeLastL ((bl s).take a)).2 : Nat) : Int)) := fun h => by
    rcases hor with ⟨w, hw, _⟩ | ⟨_, he⟩
    · exact absurd hw (h w)
    · rw [he]; rfl
  intro d
  induction d with
  | zero =>
    intro w k hwd hw1 hno hk
    obtain ⟨k, rfl⟩ : ∃ m, k = m + 1 + 1 := ⟨k - 2, by omega⟩
    simp only [glossaryref01_Before.l0]
    rw [if_neg (by omega)]
    simp only [glossaryref01_Before.j2]
    rw [if_neg (by decide)]
    exact hout (fun v hv => by
      by_cases h : v < w
      · exact hno v h hv
      · have := hv.four; omega)
  | succ d ih =>
    intro w k hwd hw1 hno hk
    obtain ⟨k, rfl⟩ : ∃ m, k = m + 1 + 1 := ⟨k - 2, by omega⟩
    simp only [glossaryref01_Before.l0]
    rw [if_pos (by omega)]
    simp only [glossaryref01_Before.j2]
    by_cases hwa : w ≤ a
    · have hw : Hid (wrap64 ((a : Int) - (w : Int)) = ((a - w : Nat) : Int)) := by show _ = _; rw [w64 (by omega) (by omega)]; omega
      have hp : a - w < s.size := by omega
      have hn := bl_nonempty hp
      have hends := ends_iff (l := bl s) (m := a) (v := w) (by omega) hwa hw1
      have hwid := wide_ref s hs (a - w) hp k (by omega)
      have hwdt := dw_pos hn
      rw [if_pos (by rw [decide_eq_true (show (w : Int) ≤ a by omega)]), hw.out, hwid]
      simp only [Option.bind_some]
      by_cases he : endsC ((bl s).take a) w
      · obtain ⟨e1, e2⟩ := hends.1 he
        have c0 : (if ill ((bl s).drop (a - w)) = true then 0 else dw ((bl s).drop (a - w))) = w := by rw [e1, if_neg (by decide)]; exact e2
        obtain ⟨t1, t2, t3⟩ := dc_take hn e1
        rw [e2] at t1 t2 t3
        have hx : bl (s.extract (a - w) a) = ((bl s).drop (a - w)).take w := by rw [bl_cut (by omega), List.drop_take]; congr 1; omega
        have hsz : (s.extract (a - w) a).size = w := by simp; omega
        have hnum := number_ref (s.extract (a - w) a) (by rw [hx]; intro e; have := congrArg List.length e; rw [List.length_take, List.length_drop, hbl] at this; simp at this; omega) (by rw [hx]; exact t3) (by rw [hx, t2, hsz]) k (by omega)
        rw [hx, t1] at hnum
        rw [c0, if_pos rfl, if_pos (by omega), if_pos (by omega), if_pos (by omega)]
        simp only [Int.toNat_natCast]
        rw [hnum]
        rcases hor with ⟨v, hv, hd⟩ | ⟨hv, _⟩
        · obtain rfl := hv.unique he
          have hcut : ((bl s).take a).drop (a - v) = ((bl s).drop (a - v)).take v := by rw [List.drop_take]; congr 1; omega
          rw [hd, hlen, hcut, t1]; rfl
        · exact absurd he (hv w)
      · have hneq : ¬ ((((if ill ((bl s).drop (a - w)) = true then 0 else dw ((bl s).drop (a - w))) : Nat) : Int) = (w : Int)) := by
          intro e
          apply he
          apply hends.2
          cases hi : ill ((bl s).drop (a - w)) with
          | true => rw [hi, if_pos rfl] at e; omega
          | false =>
            rw [hi, if_neg (by decide)] at e
            exact ⟨rfl, by omega⟩
        have hw2 : Hid (wrap64 ((w : Int) + 1) = ((w + 1 : Nat) : Int)) := by show _ = _; rw [w64 (by omega) (by omega)]; omega
        rw [if_neg hneq, hw2.out]
        exact ih (w + 1) k (by omega) (by omega) (fun v hv => by
          by_cases h : v < w
          · exact hno v h
          · have : v = w := by omega
            subst this; exact he) (by omega)
    · rw [if_neg (by rw [decide_eq_false (show ¬ ((w : Int) ≤ a) by omega)]; decide)]
      exact hout (fun v hv => by
        by_cases h : v < w
        · exact hno v h hv
        · have := hv.1; omega)
/-- Before, in plain words -/
theorem before_ref (s : ByteArray) (hs : s.size ≤ 140737488351232) (a : Int) : glossaryref01_Before.f 20 s a = some ((befU (bl s) a).1, (befU (bl s) a).2) := by
  unfold glossaryref01_Before.f befU
  rw [bl_len]
  by_cases h0 : a < 1
  · rw [if_pos h0, if_pos (.inl h0)]
    simp only [glossaryref01_Before.j0]
    rfl
  · rw [if_neg h0]
    by_cases h1 : (s.size : Int) < a
    · rw [if_pos (.inr h1), decide_eq_true (show a > (s.size : Int) from h1)]
      simp only [glossaryref01_Before.j0]
      rfl
    · rw [if_neg (by omega), decide_eq_false (by omega)]
      obtain ⟨p, rfl⟩ : ∃ p : Nat, a = p := ⟨a.toNat, by omega⟩
      simp only [glossaryref01_Before.j0]
      rw [if_neg (by decide), Int.toNat_natCast]
      exact before_l0 s hs p (by omega) (by omega) 4 1 19 rfl (by omega) (fun v hv h => by have := h.2.1; omega) (by omega)
end Go.Proofs.YtbkimhbpcmbflaaDoor.C
