/-
  The document's answers of glossaryref01, as printed, in plain words: beginnings, Full, Bad.
-/
import Derived.Test.YtbkimhbpcmbflaaDoorGA
import Derived.Test.YtbkimhbpcmbflaaDoorMM
set_option linter.unusedVariables false
set_option linter.unusedSimpArgs false
set_option maxRecDepth 100000
namespace Go.Proofs.YtbkimhbpcmbflaaDoor.C
open Go Go.RowKit Go.Proofs.YtbkimhbpcmbflaaDoor.M Go.Proofs.YtbkimhbpcmbflaaDoor.PAll Go.Proofs.YtbkimhbpcmbflaaDoorW.PrintWords

theorem toL (s : ByteArray) : s.toList = bl s := ByteArray.toList_eq s
theorem lead_ref : ∀ c : Nat, c < 256 → glossaryref01_lead.f (c : Int) = some (((leadN c : Nat) : Int), (((if leadN c ≤ 1 then 0 else leadLo c) : Nat) : Int), (((if leadN c ≤ 1 then 0 else leadHi c) : Nat) : Int)) := by
  decide +kernel
theorem bt_in {s : ByteArray} {p : Nat} (h : p < s.size) : Go.Proofs.YtbkimhbpcmbflaaDoorW.PrintWords.bt s (p : Int) = (M.bt (bl s) p : Nat) := by
  have e : Go.Proofs.YtbkimhbpcmbflaaDoorW.PrintWords.bt s (p : Int) = ((s[p]'h).toNat : Int) := by unfold Go.Proofs.YtbkimhbpcmbflaaDoorW.PrintWords.bt; rw [dif_pos (by rw [Int.toNat_natCast]; exact h)]; simp
  rw [e, byte_at h]
  show ((M.bt ((bl s).drop p) 0 : Nat) : Int) = _
  rw [bt_drop, Nat.add_zero]
theorem bg_step {l : List UInt8} {i : Nat} (h1 : 1 ≤ i) (hi : i < nb l) (hb : i ≤ bg l) : (i < bg l ↔ (if i = 1 then leadLo (M.bt l 0) ≤ M.bt l 1 ∧ M.bt l 1 ≤ leadHi (M.bt l 0) else 128 ≤ M.bt l i ∧ M.bt l i ≤ 191)) := by
  have h4 := nb_le l
  rw [bg_def, nb_def] at *
  unfold bgN at *
  have : i = 1 ∨ i = 2 ∨ i = 3 := by omega
  rcases this with rfl | rfl | rfl
  · rw [if_pos rfl]
    repeat' split at hb
    all_goals (repeat' split)
    all_goals omega
  · rw [if_neg (show ¬ 2 = 1 by decide)]
    repeat' split at hb
    all_goals (repeat' split)
    all_goals omega
  · rw [if_neg (show ¬ 3 = 1 by decide)]
    repeat' split at hb
    all_goals (repeat' split)
    all_goals omega
theorem within_ref (a b c : Nat) : glossaryref01_within.f (a : Int) (b : Int) (c : Int) = some (decide (b ≤ a ∧ a ≤ c)) := by
  unfold glossaryref01_within.f
  by_cases h : b ≤ a
  · rw [if_pos (by omega)]
    by_cases h2 : a ≤ c
    · rw [decide_eq_true (by omega), decide_eq_true (by omega)]
    · rw [decide_eq_false (by omega), decide_eq_false (by omega)]
  · rw [if_neg (by omega), decide_eq_false (by omega)]
theorem begun_l0 (s : ByteArray) (hs : s.size ≤ 140737488351232) (p : Nat) (hp : p < s.size) (t : List UInt8) (ht : (bl s).drop p = t) : ∀ d i k : Nat, i + d = nb t → 1 ≤ i → i ≤ bg t → d < k →
    glossaryref01_Begun.l0 k s p (nb t : Nat) (leadLo (M.bt t 0) : Nat) (leadHi (M.bt t 0) : Nat) i = some (((bg t : Nat) : Int), ((nb t : Nat) : Int)) := by
  have h4 := nb_le t
  have hbn := bg_nb t
  intro d
  induction d with
  | zero =>
    intro i k hi h1 hb hk
    obtain ⟨k, rfl⟩ : ∃ m, k = m + 1 := ⟨k - 1, by omega⟩
    have e : i = nb t := by omega
    have e2 : bg t = nb t := by omega
    simp only [glossaryref01_Begun.l0]
    rw [if_neg (by omega), e, e2]
  | succ d ih =>
    intro i k hi h1 hb hk
    obtain ⟨k, rfl⟩ : ∃ m, k = m + 1 := ⟨k - 1, by omega⟩
    have hstep := bg_step (l := t) h1 (by omega) hb
    have hw : wrap64 ((p : Int) + (i : Int)) = ((p + i : Nat) : Int) := by rw [w64 (by omega) (by omega)]; omega
    have hw1 : wrap64 ((i : Int) + 1) = ((i + 1 : Nat) : Int) := by rw [w64 (by omega) (by omega)]; omega
    simp only [glossaryref01_Begun.l0]
    rw [if_pos (by omega), hw]
    have hne : t ≠ [] := by rw [← ht]; exact bl_nonempty hp
    have htl : t.length = s.size - p := by rw [← ht, List.length_drop, bl_len]
    by_cases hlt : p + i < s.size
    · rw [if_pos (by omega)]
      have hbt : Go.Proofs.YtbkimhbpcmbflaaDoorW.PrintWords.bt s ((p + i : Nat) : Int) = (M.bt t i : Nat) := by rw [bt_in hlt, ← ht, bt_drop]
      rw [hbt]
      by_cases h2 : i = 1
      · subst h2
        rw [if_pos rfl] at hstep
        rw [if_pos (by rfl), if_pos (by omega), within_ref]
        simp only [Option.bind_some]
        by_cases hc : leadLo (M.bt t 0) ≤ M.bt t 1 ∧ M.bt t 1 ≤ leadHi (M.bt t 0)
        · rw [decide_eq_true hc, if_pos rfl, hw1]
          exact ih (1 + 1) k (by omega) (by omega) (by have := hstep.2 hc; omega) (by omega)
        · rw [decide_eq_false hc, if_neg (by decide), if_neg (by decide)]
          have : ¬ 1 < bg t := fun h => hc (hstep.1 h)
          have e : bg t = 1 := by omega
          rw [e]
      · rw [if_neg h2] at hstep
        have w2 := within_ref (M.bt t i) 128 191
        rw [if_neg (by omega), if_pos (by omega), if_pos (by omega)]
        rw [show ((128 : Nat) : Int) = 128 from rfl, show ((191 : Nat) : Int) = 191 from rfl] at w2
        rw [w2]
        simp only [Option.bind_some]
        by_cases hc : 128 ≤ M.bt t i ∧ M.bt t i ≤ 191
        · rw [decide_eq_true hc, if_pos rfl, hw1]
          exact ih (i + 1) k (by omega) (by omega) (by have := hstep.2 hc; omega) (by omega)
        · rw [decide_eq_false hc, if_neg (by decide)]
          have : ¬ i < bg t := fun h => hc (hstep.1 h)
          have e : bg t = i := by omega
          rw [e]
    · rw [if_neg (by omega)]
      have := bg_len hne
      have e : bg t = i := by omega
      rw [e]
/-- Begun, in plain words -/
theorem begun_ref (s : ByteArray) (hs : s.size ≤ 140737488351232) (p : Nat) (hp : p < s.size) : ∀ k, 4 ≤ k → glossaryref01_Begun.f k s p = some (((bg ((bl s).drop p) : Nat) : Int), ((nb ((bl s).drop p) : Nat) : Int)) := by
  intro k hk
  unfold glossaryref01_Begun.f
  rw [if_pos (by omega), if_pos (by omega), bt_in hp, lead_ref _ (M.bt_lt _ _)]
  simp only [Option.bind_some]
  have hb0 : M.bt (bl s) p = M.bt ((bl s).drop p) 0 := by rw [bt_drop, Nat.add_zero]
  have hn : leadN (M.bt (bl s) p) = nb ((bl s).drop p) := by rw [hb0]; rfl
  obtain ⟨t, ht⟩ : ∃ t, (bl s).drop p = t := ⟨_, rfl⟩
  rw [hn, hb0, ht]
  have hbn := bg_nb t
  have h4 := nb_le t
  by_cases h0 : nb t = 0
  · rw [if_pos (by omega), h0, show bg t = 0 by omega]; rfl
  · rw [if_neg (by omega)]
    have h1 : 1 ≤ bg t := by
      rw [bg_def]; rw [nb_def] at h0
      unfold bgN
      repeat' split
      all_goals omega
    by_cases h2 : nb t ≤ 1
    · rw [if_pos h2, if_pos h2]
      obtain ⟨k, rfl⟩ : ∃ m, k = m + 1 := ⟨k - 1, by omega⟩
      have e : nb t = 1 := by omega
      have e2 : bg t = 1 := by omega
      simp only [glossaryref01_Begun.l0]
      rw [e, e2]
      rfl
    · rw [if_neg h2, if_neg h2]
      exact begun_l0 s hs p hp t ht (nb t - 1) 1 k (by omega) (by omega) h1 (by omega)
theorem utfull_ref (s : ByteArray) (hs : s.size ≤ 140737488351232) : glossaryref01_Full.f 4 s = some (fullP (bl s)) := by
  unfold glossaryref01_Full.f fullP
  have hl := bl_len s
  by_cases h0 : s.size = 0
  · have e : bl s = [] := List.eq_nil_of_length_eq_zero (by omega)
    have e2 : s.toList = [] := by rw [toL, e]
    rw [if_pos e2, e]; rfl
  · have hne : bl s ≠ [] := by intro e; rw [e] at hl; simp at hl; omega
    have e2 : ¬ s.toList = [] := by
      intro e
      exact hne (by rw [← toL]; exact e)
    rw [if_neg e2]
    have := begun_ref s hs 0 (by omega) 4 (by omega)
    rw [show ((0 : Nat) : Int) = 0 from rfl, List.drop_zero] at this
    rw [this]
    simp only [Option.bind_some]
    by_cases h : bg (bl s) = nb (bl s)
    · rw [if_pos (by omega)]
      congr 1
      exact (decide_eq_true ⟨hne, .inl h⟩).symm
    · rw [if_neg (by omega)]
      congr 1
      rw [← hl]
      by_cases h2 : bg (bl s) < (bl s).length
      · rw [decide_eq_true (by omega), decide_eq_true ⟨hne, .inr h2⟩]
      · rw [decide_eq_false (by omega), decide_eq_false (fun h3 => h3.2.elim h h2)]
end Go.Proofs.YtbkimhbpcmbflaaDoor.C
