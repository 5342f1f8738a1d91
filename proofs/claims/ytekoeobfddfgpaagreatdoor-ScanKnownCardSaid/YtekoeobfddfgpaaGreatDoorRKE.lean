/-
  Of this seat's texts what the claim wants (printed by a program): KE.
-/
import Derived.Test.YtekoeobfddfgpaaGreatDoorRAP
import Derived.Test.YtekoeobfddfgpaaGreatDoorRSS
import Derived.Test.YtekoeobfddfgpaaGreatDoorRD1
import Derived.Test.YtekoeobfddfgpaaGreatDoorRD7
import Derived.Test.YtekoeobfddfgpaaGreatDoorRD8
import Derived.Test.YtekoeobfddfgpaaGreatDoorRDX
import Derived.StillTailTactics
import Derived.OwnWalk
import Derived.Deep.QuietTactic
import Derived.BigQuiet
import Derived.Deep.RegionHeld3
import Derived.Deep.RegionLaw
import Derived.Deep.AppendLies
import Derived.Test.YtekoeobfddfgpaaGreatDoorRE9
set_option linter.unusedVariables false
set_option linter.unusedSimpArgs false
namespace Go.Proofs.YtekoeobfddfgpaaGreatDoor.C
open Go Go.RowKit Go.Proofs.YtekoeobfddfgpaaGreatDoor.M Go.Proofs.YtekoeobfddfgpaaGreatDoor.PAll Go.Proofs.YtekoeobfddfgpaaGreatDoorW.PrintWords
def Evn {α : Type} (g : Nat → Option α) (r : α) : Prop := ∃ K, ∀ k, K ≤ k → g k = some r
theorem Evn.all {α : Type} {g : Nat → Option α} {r : α} (h : ∀ k, g k = some r) : Evn g r := ⟨0, fun k _ => h k⟩
theorem Evn.succ {α : Type} {g : Nat → Option α} {r : α} (h : Evn (fun k => g (k + 1)) r) : Evn g r := by
  obtain ⟨K, hK⟩ := h
  refine ⟨K + 1, fun k hk => ?_⟩
  have this : g (k - 1 + 1) = some r := hK (k - 1) (by omega)
  rwa [show k - 1 + 1 = k by omega] at this
theorem Evn.to {α : Type} {g g' : Nat → Option α} {r : α} (h : Evn g' r) (e : ∀ k, g k = g' k) : Evn g r := by
  obtain ⟨K, hK⟩ := h
  exact ⟨K, fun k hk => (e k).trans (hK k hk)⟩
theorem Evn.at {α : Type} {g g' : Nat → Option α} {r : α} (h : Evn g' r) (e : ∀ k, g (k + 1) = g' k) : Evn g r := Evn.succ (h.to e)
theorem Evn.bind {α β : Type} {g : Nat → Option α} {h : Nat → α → Option β} {a : α} {b : β} (h1 : Evn g a) (h2 : Evn (fun k => h k a) b) : Evn (fun k => (g k).bind (h k)) b := by
  obtain ⟨K, hK⟩ := h1
  obtain ⟨L, hL⟩ := h2
  refine ⟨K + L, fun k hk => ?_⟩
  show (g k).bind (h k) = some b
  rw [hK k (by omega), Option.bind_some]
  exact hL k (by omega)
theorem Evn.ex {α : Type} {g : Nat → Option α} {r : α} (h : Evn g r) : ∃ k, g k = some r := by
  obtain ⟨K, hK⟩ := h
  exact ⟨K, hK K (Nat.le_refl _)⟩
theorem wn (n : Nat) (h : (n : Int) + 1 ≤ 9223372036854775807) : wrap64 ((n : Int) + 1) = ((n + 1 : Nat) : Int) := by rw [w64 (by omega) (by omega)]; omega
theorem drop_nx {l : List UInt8} {p : Nat} {c : UInt8} {r : List UInt8} (h : l.drop p = c :: r) : l.drop (p + 1) = r := by
  rw [← List.drop_drop, h]; rfl
theorem drop_lt {s : ByteArray} {p : Nat} {c : UInt8} {r : List UInt8} (h : (bl s).drop p = c :: r) : p < s.size ∧ r.length + p + 1 = s.size := by
  have := congrArg List.length h
  rw [List.length_drop, bl_len, List.length_cons] at this
  omega
theorem drop_ge {s : ByteArray} {p : Nat} (h : (bl s).drop p = []) : s.size ≤ p := by
  have := congrArg List.length h
  rw [List.length_drop, bl_len, List.length_nil] at this
  omega
theorem bt_c {s : ByteArray} {p : Nat} {c : UInt8} {r : List UInt8} (h : (bl s).drop p = c :: r) : Go.Proofs.YtekoeobfddfgpaaGreatDoorW.PrintWords.bt s (p : Int) = (c.toNat : Int) := by
  rw [bt_eq (drop_lt h).1, h]; rfl
theorem u8i_eq {c d : UInt8} : ((c.toNat : Int) = (d.toNat : Int)) ↔ c = d := by
  constructor
  · intro e
    exact UInt8.toNat_inj.1 (by omega)
  · rintro rfl; rfl
theorem fnd_nil (c : UInt8) : M.find c [] = 0 := rfl
theorem fnd_cons (c d : UInt8) (r : List UInt8) : M.find c (d :: r) = if d = c then 0 else M.find c r + 1 := by
  unfold M.find
  rw [List.takeWhile_cons]
  by_cases h : d = c
  · subst h; simp
  · simp [h]
theorem fnd_le (c : UInt8) (l : List UInt8) : M.find c l ≤ l.length := (List.takeWhile_prefix _).length_le
theorem find_ref (s : ByteArray) (hs : s.size ≤ 140737488351232) (c : UInt8) : ∀ (t : List UInt8) (p : Nat), (bl s).drop p = t → p ≤ s.size →
    Evn (fun k => glossaryref05_find.l0 k s p (c.toNat : Nat)) (if M.find c t = t.length then -1 else ((p + M.find c t : Nat) : Int)) := by
  intro t
  induction t with
  | nil =>
    intro p h hp
    have := drop_ge h
    refine (Evn.all (g := fun _ => some (-1)) fun k => rfl).at fun k => ?_
    simp only [glossaryref05_find.l0]
    rw [if_neg (by omega)]
  | cons d r ih =>
    intro p h hp
    obtain ⟨h1, h2⟩ := drop_lt h
    rw [fnd_cons]
    by_cases hd : d = c
    · subst hd
      rw [if_pos rfl, if_neg (by simp)]
      refine (Evn.all (g := fun _ => some ((p + 0 : Nat) : Int)) fun k => rfl).at fun k => ?_
      simp only [glossaryref05_find.l0]
      rw [if_pos (by omega), if_pos (by omega), if_pos (bt_c h), Nat.add_zero]
    · rw [if_neg hd]
      have hi := ih (p + 1) (drop_nx h) (by omega)
      have e : (if M.find c r = r.length then -1 else ((p + 1 + M.find c r : Nat) : Int)) = (if M.find c r + 1 = (d :: r).length then -1 else ((p + (M.find c r + 1) : Nat) : Int)) := by
        rw [List.length_cons]
        by_cases h : M.find c r = r.length
        · rw [if_pos h, if_pos (by omega)]
        · rw [if_neg h, if_neg (by omega)]; omega
      rw [e] at hi
      refine hi.at fun k => ?_
      conv => lhs; simp only [glossaryref05_find.l0]
      rw [if_pos (by omega), if_pos (by omega), bt_c h, if_neg (fun e => hd (u8i_eq.1 e)), wn p (by omega)]
theorem find_at_ref {s : ByteArray} (hs : s.size ≤ 140737488351232) {t : List UInt8} {p : Nat} (c : UInt8) (h : (bl s).drop p = t) (hp : p ≤ s.size) :
    Evn (fun k => glossaryref05_find.f k s p (c.toNat : Nat)) (if M.find c t = t.length then -1 else ((p + M.find c t : Nat) : Int)) := find_ref s hs c t p h hp
theorem toList_bl' (x : ByteArray) : x.toList = bl x := by rw [ByteArray.toList_eq]
theorem begins_ref {s : ByteArray} (hs : s.size ≤ 140737488351232) {t : List UInt8} {p : Nat} (h : (bl s).drop p = t) (x : ByteArray) (hx : x.size ≤ 1000) (hp : p ≤ s.size) :
    glossaryref05_begins.f s p x = some (decide (t.take x.size = bl x)) := by
  have e1 : wrap64 ((p : Int) + (x.size : Int)) = ((p + x.size : Nat) : Int) := by rw [w64 (by omega) (by omega)]; omega
  have hl := congrArg List.length h
  rw [List.length_drop, bl_len] at hl
  unfold glossaryref05_begins.f
  rw [e1]
  by_cases hle : p + x.size ≤ s.size
  · rw [if_pos (by omega), if_pos (by omega), if_pos (by omega), Int.toNat_natCast, Int.toNat_natCast, toList_bl', toList_bl']
    have e2 : bl (s.extract p (p + x.size)) = t.take x.size := by
      rw [← h]
      simp [bl, ByteArray.data_extract, Array.toList_extract, List.extract]
    rw [e2]
    congr 1
    by_cases hh : t.take x.size = bl x
    · simp [hh]
    · rw [decide_eq_false hh]; simpa using hh
  · rw [if_neg (by omega), decide_eq_false]
    intro e
    have := congrArg List.length e
    rw [List.length_take, bl_len] at this
    omega
theorem sign_l0 {s : ByteArray} (hs : s.size ≤ 140737488351232) {t : List UInt8} {p : Nat} (h : (bl s).drop p = t) (hp : p ≤ s.size) (xs : List ByteArray) (hx : ∀ x ∈ xs, x.size ≤ 1000) (hn : xs.length ≤ 1000) :
    ∀ (ys : List ByteArray) (i : Nat), xs.drop i = ys → Evn (fun k => glossaryref05_sign.l0 k s p xs i) ((ys.find? (fun x => decide (t.take x.size = bl x))).getD ⟨#[]⟩) := by
  intro ys
  induction ys with
  | nil =>
    intro i hi
    have hl := congrArg List.length hi
    rw [List.length_drop, List.length_nil] at hl
    refine (Evn.all (g := fun _ => some (⟨#[]⟩ : ByteArray)) fun k => rfl).at fun k => ?_
    simp only [glossaryref05_sign.l0]
    rw [if_neg (by omega)]
  | cons y ys ih =>
    intro i hi
    have hl := congrArg List.length hi
    rw [List.length_drop, List.length_cons] at hl
    have hy : xs[i]? = some y := by
      have := congrArg (·[0]?) hi
      simpa using this
    have hrd : rdOf ByteArray.empty xs (i : Int) = y := by
      unfold rdOf
      rw [Int.toNat_natCast, List.getD_eq_getElem?_getD, hy]; rfl
    have hb := begins_ref hs h y (hx y (List.mem_of_getElem? hy)) (by omega)
    have hi2 : xs.drop (i + 1) = ys := by rw [← List.drop_drop, hi]; rfl
    rw [List.find?_cons]
    by_cases hd : t.take y.size = bl y
    · simp only [hd, decide_true, Option.getD_some]
      refine (Evn.all (g := fun _ => some y) fun k => rfl).at fun k => ?_
      simp only [glossaryref05_sign.l0]
      rw [if_pos (by omega), if_pos (by omega), hrd, hb, Option.bind_some, decide_eq_true hd, if_pos rfl]
    · simp only [hd, decide_false]
      refine (ih (i + 1) hi2).at fun k => ?_
      conv => lhs; simp only [glossaryref05_sign.l0]
      rw [if_pos (by omega), if_pos (by omega), hrd, hb, Option.bind_some, decide_eq_false hd, if_neg (by simp), wn i (by omega)]
theorem find_map (t : List UInt8) : ∀ ys : List (List UInt8), ((ys.map ba).find? (fun x => decide (t.take x.size = bl x))).getD ⟨#[]⟩ = ba ((ys.find? (fun y => decide (t.take y.length = y))).getD []) := by
  intro ys
  induction ys with
  | nil => rfl
  | cons y ys ih =>
    rw [List.map_cons, List.find?_cons, List.find?_cons, ba_size, bl_ba]
    by_cases h : t.take y.length = y
    · simp [h]
    · simp only [h, decide_false]
      exact ih
def sg5 (c : UInt8) : Prop := c = 38 ∨ c = 60 ∨ c = 61 ∨ c = 47 ∨ c = 45
instance (c : UInt8) : Decidable (sg5 c) := inferInstanceAs (Decidable (_ ∨ _))
theorem sign_ref {s : ByteArray} (hs : s.size ≤ 140737488351232) {c : UInt8} {r : List UInt8} {p : Nat} (h : (bl s).drop p = c :: r) :
    Evn (fun k => glossaryref05_sign.f k s p) (ba (if sg5 c then (c :: r).take (signW (c :: r)) else [])) := by
  have hp := (drop_lt h).1
  have b3 := begins_ref hs h ⟨#[60, 60, 60]⟩ (by decide) (by omega)
  have b2 := begins_ref hs h ⟨#[60, 60]⟩ (by decide) (by omega)
  have L : ∀ xs : List ByteArray, (∀ x ∈ xs, x.size ≤ 1000) → xs.length ≤ 1000 → ∀ y, (xs.find? (fun x => decide ((c :: r).take x.size = bl x))).getD ⟨#[]⟩ = y → Evn (fun k => glossaryref05_sign.j0 k s p xs) y := by
    intro xs h1 h2 y hy
    have := sign_l0 hs h (by omega) xs h1 h2 xs 0 rfl
    rw [hy] at this
    exact this.at fun k => rfl
  have G3 : (c :: r).take 3 = [60, 60, 60] → ∀ y, ba (([[60, 60, 60, 42], [60, 60, 60]].find? (fun y => decide ((c :: r).take y.length = y))).getD []) = y → Evn (fun k => glossaryref05_sign.f k s p) y := by
    intro h3 y hy
    refine (L (List.map ba [[60, 60, 60, 42], [60, 60, 60]]) (by decide) (by decide) y (by rw [find_map]; exact hy)).to fun k => ?_
    unfold glossaryref05_sign.f
    have h3' : decide ((c :: r).take (⟨#[60, 60, 60]⟩ : ByteArray).size = bl ⟨#[60, 60, 60]⟩) = true := decide_eq_true h3
    rw [b3, Option.bind_some, if_pos h3']
    rfl
  have G2 : ¬ (c :: r).take 3 = [60, 60, 60] → (c :: r).take 2 = [60, 60] → ∀ y, ba (([[60, 60, 42], [60, 60]].find? (fun y => decide ((c :: r).take y.length = y))).getD []) = y → Evn (fun k => glossaryref05_sign.f k s p) y := by
    intro h3 h2 y hy
    refine (L (List.map ba [[60, 60, 42], [60, 60]]) (by decide) (by decide) y (by rw [find_map]; exact hy)).to fun k => ?_
    unfold glossaryref05_sign.f
    have h3' : ¬ decide ((c :: r).take (⟨#[60, 60, 60]⟩ : ByteArray).size = bl ⟨#[60, 60, 60]⟩) = true := by rw [decide_eq_true_iff]; exact h3
    have h2' : decide ((c :: r).take (⟨#[60, 60]⟩ : ByteArray).size = bl ⟨#[60, 60]⟩) = true := decide_eq_true h2
    rw [b3, Option.bind_some, if_neg h3', b2, Option.bind_some, if_pos h2']
    rfl
  have G1 : ¬ (c :: r).take 3 = [60, 60, 60] → ¬ (c :: r).take 2 = [60, 60] → ∀ y, ba (([[60, 60, 60, 42], [60, 60, 42], [60, 42], [61, 42], [60, 60, 60], [60, 60], [60], [38], [61], [47], [45]].find? (fun y => decide ((c :: r).take y.length = y))).getD []) = y → Evn (fun k => glossaryref05_sign.f k s p) y := by
    intro h3 h2 y hy
    refine (L (List.map ba [[60, 60, 60, 42], [60, 60, 42], [60, 42], [61, 42], [60, 60, 60], [60, 60], [60], [38], [61], [47], [45]]) (by decide) (by decide) y (by rw [find_map]; exact hy)).to fun k => ?_
    unfold glossaryref05_sign.f
    have h3' : ¬ decide ((c :: r).take (⟨#[60, 60, 60]⟩ : ByteArray).size = bl ⟨#[60, 60, 60]⟩) = true := by rw [decide_eq_true_iff]; exact h3
    have h2' : ¬ decide ((c :: r).take (⟨#[60, 60]⟩ : ByteArray).size = bl ⟨#[60, 60]⟩) = true := by rw [decide_eq_true_iff]; exact h2
    rw [b3, Option.bind_some, if_neg h3', b2, Option.bind_some, if_neg h2']
    rfl
  clear L b2 b3
  by_cases h60 : c = 60
  · subst h60
    cases r with
    | nil => exact G1 (by simp) (by simp) _ (by simp [signW, ltW, sg5])
    | cons d q =>
      by_cases hd : d = 60
      · subst hd
        cases q with
        | nil => exact G2 (by simp) (by simp) _ (by simp [signW, ltW, sg5])
        | cons e z =>
          by_cases he : e = 60
          · subst he
            cases z with
            | nil => exact G3 (by simp) _ (by simp [signW, ltW, sg5])
            | cons f z =>
              by_cases hf : f = 42
              · subst hf; exact G3 (by simp) _ (by simp [signW, ltW, sg5])
              · exact G3 (by simp) _ (by simp [signW, ltW, sg5, hf])
          · by_cases hf : e = 42
            · subst hf; exact G2 (by simp) (by simp) _ (by simp [signW, ltW, sg5])
            · exact G2 (by simp [he]) (by simp) _ (by simp [signW, ltW, sg5, hf, he])
      · by_cases hf : d = 42
        · subst hf; exact G1 (by simp) (by simp) _ (by simp [signW, ltW, sg5])
        · exact G1 (by simp [hd]) (by simp [hd]) _ (by simp [signW, ltW, sg5, hf, hd])
  · by_cases h61 : c = 61
    · subst h61
      cases r with
      | nil => exact G1 (by simp) (by simp) _ (by simp [signW, ltW, sg5])
      | cons d q =>
        by_cases hf : d = 42
        · subst hf; exact G1 (by simp) (by simp) _ (by simp [signW, ltW, sg5])
        · exact G1 (by simp) (by simp) _ (by simp [signW, ltW, sg5, hf])
    · by_cases h38 : c = 38
      · subst h38; exact G1 (by simp) (by simp) _ (by simp [signW, ltW, sg5])
      · by_cases h47 : c = 47
        · subst h47; exact G1 (by simp) (by simp) _ (by simp [signW, ltW, sg5])
        · by_cases h45 : c = 45
          · subst h45; exact G1 (by simp) (by simp) _ (by simp [signW, ltW, sg5])
          · exact G1 (by simp [h60]) (by simp [h60]) _ (by simp [signW, ltW, sg5, h60, h61, h38, h47, h45])
def dig (c : UInt8) : Int := match hexv c with
  | some d => (d : Int)
  | none => -1
theorem digit_n (k n : Nat) (hn : n < 256) : glossaryref05_digit.f (k + 2) (n : Int) = some (if 48 ≤ n ∧ n ≤ 57 then (n : Int) - 48 else if 97 ≤ n ∧ n ≤ 102 then (n : Int) - 87 else if 65 ≤ n ∧ n ≤ 70 then (n : Int) - 55 else -1) := by
  unfold glossaryref05_digit.f
  simp only [glossaryref05_digit.j0, glossaryref05_digit.j1, ge_iff_le, decide_eq_true_eq, Bool.false_eq_true, if_false]
  repeat' split
  all_goals first | (exfalso; omega) | rfl | (congr 1; unfold wrap64; omega)
theorem digit_ref (k : Nat) (c : UInt8) : glossaryref05_digit.f (k + 2) (c.toNat : Nat) = some (dig c) := by
  have hc := u8_lt c
  rw [digit_n k c.toNat hc]
  congr 1
  unfold dig hexv
  repeat' split
  all_goals first | (exfalso; omega) | (rename_i h; injection h; omega) | omega | (rename_i h; cases h) | rfl | (simp at *; omega)
def hexs : List UInt8 → Nat → Option Nat
  | [], v => some v
  | c :: r, v => match hexv c with
    | none => none
    | some d => hexs r (16 * v + d)
theorem hexv_lt : ∀ c : UInt8, ∀ d, hexv c = some d → d < 16 := by
  intro c d
  unfold hexv
  have := u8_lt c
  split
  · intro e; injection e; omega
  split
  · intro e; injection e; omega
  split
  · intro e; injection e; omega
  · intro e; cases e
def numA : Option Nat → Int
  | some v => (v : Int)
  | none => -1
theorem number_l0 {s : ByteArray} (hs : s.size ≤ 140737488351232) : ∀ (n : Nat) (p v : Nat) (t : List UInt8), (bl s).drop p = t → n ≤ t.length → (v + 1) * 16 ^ n ≤ 72057594037927936 →
    Evn (fun k => glossaryref05_number.l0 k s ((p + n : Nat) : Int) v p) (numA (hexs (t.take n) v)) := by
  intro n
  induction n with
  | zero =>
    intro p v t h hn hv
    refine (Evn.all (g := fun _ => some ((v : Nat) : Int)) fun k => rfl).at fun k => ?_
    simp only [glossaryref05_number.l0]
    rw [if_neg (by omega)]
  | succ n ih =>
    intro p v t h hn hv
    cases t with
    | nil => simp at hn
    | cons c r =>
      obtain ⟨h1, h2⟩ := drop_lt h
      rw [List.take_succ_cons, hexs]
      have hv2 : (v + 1) * 16 * 16 ^ n ≤ 72057594037927936 := by rw [Nat.pow_succ] at hv; rw [Nat.mul_assoc, Nat.mul_comm 16]; exact hv
      have hp : 1 ≤ 16 ^ n := Nat.one_le_pow _ _ (by decide)
      have hv3 : (v + 1) * 16 ≤ 72057594037927936 := Nat.le_trans (Nat.le_mul_of_pos_right _ hp) hv2
      cases hd : hexv c with
      | none =>
        have hdg : dig c = -1 := by unfold dig; rw [hd]
        refine ⟨4, fun k hk => ?_⟩
        obtain ⟨k, rfl⟩ : ∃ j, k = (j + 2) + 1 := ⟨k - 3, by omega⟩
        show glossaryref05_number.l0 (k + 2 + 1) s _ _ _ = _
        rw [glossaryref05_number.l0]
        rw [if_pos (by omega), if_pos (by omega), if_pos (by omega), bt_c h, digit_ref, Option.bind_some, hdg, if_pos (by decide)]
        rfl
      | some d =>
        have hdg : dig c = (d : Int) := by unfold dig; rw [hd]
        have hd16 := hexv_lt c d hd
        have hi := ih (p + 1) (16 * v + d) r (drop_nx h) (by simp at hn; omega) (Nat.le_trans (Nat.mul_le_mul_right _ (by omega)) hv2)
        obtain ⟨K, hK⟩ := hi
        refine ⟨K + 4, fun k hk => ?_⟩
        obtain ⟨k, rfl⟩ : ∃ j, k = (j + 2) + 1 := ⟨k - 3, by omega⟩
        have := hK (k + 2) (by omega)
        show glossaryref05_number.l0 (k + 2 + 1) s _ _ _ = _
        rw [glossaryref05_number.l0]
        rw [if_pos (by omega), if_pos (by omega), if_pos (by omega), bt_c h, digit_ref, Option.bind_some, hdg, if_neg (by omega), wn p (by omega)]
        rw [w64 (x := (v : Int) * 16) (by omega) (by omega), w64 (by omega) (by omega)]
        rw [show (v : Int) * 16 + (d : Int) = ((16 * v + d : Nat) : Int) by omega, show p + (n + 1) = p + 1 + n by omega]
        exact this
end Go.Proofs.YtekoeobfddfgpaaGreatDoor.C
set_option linter.unusedVariables false
set_option linter.unusedSimpArgs false
namespace Go.Proofs.YtekoeobfddfgpaaGreatDoor.C
open Go Go.RowKit Go.Proofs.YtekoeobfddfgpaaGreatDoor.M Go.Proofs.YtekoeobfddfgpaaGreatDoor.PAll Go.Proofs.YtekoeobfddfgpaaGreatDoorW.PrintWords
theorem number_ref {s : ByteArray} (hs : s.size ≤ 140737488351232) {t : List UInt8} {p : Nat} (h : (bl s).drop p = t) (hp : p ≤ s.size) (n least most : Nat) (hn : n ≤ 140737488351232) (h1 : least ≤ 6) (h2 : most ≤ 6) :
    Evn (fun k => glossaryref05_number.f k s p ((p + n : Nat) : Int) least most) (if n < least ∨ most < n ∨ t.length < n then -1 else numA (hexs (t.take n) 0)) := by
  have hl := congrArg List.length h
  rw [List.length_drop, bl_len] at hl
  have e1 : wrap64 (((p + n : Nat) : Int) - (p : Int)) = (n : Int) := by rw [w64 (by omega) (by omega)]; omega
  have no : ∀ (b : Bool), b = true → Evn (fun k => glossaryref05_number.j0 k s p ((p + n : Nat) : Int) b) (-1) := by
    rintro b rfl
    refine (Evn.all (g := fun _ => some (-1)) fun k => rfl).at fun k => ?_
    simp [glossaryref05_number.j0]
  have ex : ∀ (k : Nat), glossaryref05_number.f k s p ((p + n : Nat) : Int) least most = if (n : Int) < (least : Int) then glossaryref05_number.j0 k s p ((p + n : Nat) : Int) true else if (n : Int) > (most : Int) then glossaryref05_number.j0 k s p ((p + n : Nat) : Int) true else glossaryref05_number.j0 k s p ((p + n : Nat) : Int) (decide (((p + n : Nat) : Int) > (s.size : Int))) := by
    intro k
    unfold glossaryref05_number.f
    rw [e1]
  by_cases a1 : n < least
  · rw [if_pos (.inl a1)]
    refine (no true rfl).to fun k => ?_
    rw [ex, if_pos (by omega)]
  by_cases a2 : most < n
  · rw [if_pos (.inr (.inl a2))]
    refine (no true rfl).to fun k => ?_
    rw [ex, if_neg (by omega), if_pos (by omega)]
  by_cases a3 : t.length < n
  · rw [if_pos (.inr (.inr a3))]
    refine (no true rfl).to fun k => ?_
    rw [ex, if_neg (by omega), if_neg (by omega), decide_eq_true (by omega)]
  · rw [if_neg (by omega)]
    have hp16 : (0 + 1) * 16 ^ n ≤ 72057594037927936 := by
      have : 16 ^ n ≤ 16 ^ 6 := Nat.pow_le_pow_right (by decide) (by omega)
      have e : (16 : Nat) ^ 6 = 16777216 := by decide
      omega
    have h3 := number_l0 hs n p 0 t h (by omega) hp16
    refine (h3.at (g := fun k => glossaryref05_number.j0 k s p ((p + n : Nat) : Int) false) fun k => ?_).to fun k => ?_
    · simp [glossaryref05_number.j0]
    · rw [ex, if_neg (by omega), if_neg (by omega), decide_eq_false (by omega)]
theorem digs_hexs : ∀ (m : Nat) (l : List UInt8) (v n x : Nat), n ≤ m → n ≤ l.length → hexs (l.take n) v = some x → (n = m ∨ ∀ c, l[n]? = some c → hexv c = none) → digs m l v = (x, n) := by
  intro m
  induction m with
  | zero =>
    intro l v n x h1 h2 h3 h4
    obtain rfl : n = 0 := by omega
    simp [hexs] at h3
    simp [digs, h3]
  | succ m ih =>
    intro l v n x h1 h2 h3 h4
    cases l with
    | nil =>
      obtain rfl : n = 0 := by simpa using h2
      simp [hexs] at h3
      simp [digs, h3]
    | cons c r =>
      cases n with
      | zero =>
        simp [hexs] at h3
        have h5 : hexv c = none := by
          rcases h4 with h4 | h4
          · omega
          · exact h4 c rfl
        simp [digs, h5, h3]
      | succ n =>
        rw [List.take_succ_cons, hexs] at h3
        cases hd : hexv c with
        | none => rw [hd] at h3; cases h3
        | some d =>
          rw [hd] at h3
          have := ih r (16 * v + d) n x (by omega) (by simpa using h2) h3 (by
            rcases h4 with h4 | h4
            · exact .inl (by omega)
            · exact .inr fun c hc => h4 c (by simpa using hc))
          simp [digs, hd, this]
theorem digs_take : ∀ (m : Nat) (l : List UInt8) (v : Nat), hexs (l.take (digs m l v).2) v = some (digs m l v).1 := by
  intro m
  induction m with
  | zero => intro l v; simp [digs, hexs]
  | succ m ih =>
    intro l v
    cases l with
    | nil => simp [digs, hexs]
    | cons c r =>
      cases hd : hexv c with
      | none => simp [digs, hd, hexs]
      | some d =>
        have := ih r (16 * v + d)
        simp [digs, hd, hexs, this]
theorem num_x (r : List UInt8) : ((digs 2 r 0).2 < 2 ∧ (if 2 < 2 ∨ 2 < 2 ∨ r.length < 2 then -1 else numA (hexs (r.take 2) 0)) = -1) ∨ ((digs 2 r 0).2 = 2 ∧ (if 2 < 2 ∨ 2 < 2 ∨ r.length < 2 then -1 else numA (hexs (r.take 2) 0)) = ((digs 2 r 0).1 : Int)) := by
  have h1 := digs_n 2 r 0
  have h2 := digs_take 2 r 0
  by_cases hl : r.length < 2
  · exact .inl ⟨by omega, by rw [if_pos (by omega)]⟩
  · rw [if_neg (by omega)]
    by_cases h : (digs 2 r 0).2 = 2
    · rw [h] at h2
      rw [h2]
      exact .inr ⟨h, rfl⟩
    · refine .inl ⟨by omega, ?_⟩
      cases hh : hexs (r.take 2) 0 with
      | none => rfl
      | some x =>
        have := digs_hexs 2 r 0 2 x (by omega) (by omega) hh (.inl rfl)
        rw [this] at h
        exact absurd rfl h
theorem digs_lt : ∀ (l : List UInt8) (v x n : Nat), digs 2 l v = (x, n) → v = 0 → x < 256 := by
  intro l v x n h hv
  subst hv
  have h1 := digs_take 2 l 0
  have h2 := (digs_n 2 l 0).1
  rw [h] at h1 h2
  simp only at h1 h2
  cases l with
  | nil => simp [hexs] at h1; omega
  | cons a l =>
    cases l with
    | nil =>
      rcases n with _ | _ | n
      · simp [hexs] at h1; omega
      · simp only [List.take_succ_cons, List.take_zero, hexs] at h1
        cases ha : hexv a with
        | none => rw [ha] at h1; cases h1
        | some d => rw [ha] at h1; have := hexv_lt a d ha; simp at h1; omega
      · simp only [List.take_succ_cons, List.take_nil, hexs] at h1
        cases ha : hexv a with
        | none => rw [ha] at h1; cases h1
        | some d => rw [ha] at h1; have := hexv_lt a d ha; simp at h1; omega
    | cons b l =>
      rcases n with _ | _ | _ | n
      · simp [hexs] at h1; omega
      · simp only [List.take_succ_cons, List.take_zero, hexs] at h1
        cases ha : hexv a with
        | none => rw [ha] at h1; cases h1
        | some d => rw [ha] at h1; have := hexv_lt a d ha; simp at h1; omega
      · simp only [List.take_succ_cons, List.take_zero, hexs] at h1
        cases ha : hexv a with
        | none => rw [ha] at h1; cases h1
        | some d =>
          rw [ha] at h1
          simp only at h1
          cases hb : hexv b with
          | none => rw [hb] at h1; cases h1
          | some e => rw [hb] at h1; have := hexv_lt a d ha; have := hexv_lt b e hb; simp at h1; omega
      · omega
theorem find_ne {c : UInt8} : ∀ (l : List UInt8) (i : Nat), i < M.find c l → l[i]? ≠ some c := by
  intro l
  induction l with
  | nil => intro i h; simp [fnd_nil] at h
  | cons d r ih =>
    intro i h
    rw [fnd_cons] at h
    split at h
    · omega
    · rename_i hd
      cases i with
      | zero => simpa using hd
      | succ i => simpa using ih i (by omega)
theorem num_u (q : List UInt8) (hf : M.find 125 q ≠ q.length) :
    (digs 6 q 0 = ((digs 6 q 0).1, M.find 125 q) ∧ 1 ≤ M.find 125 q ∧ (if M.find 125 q < 1 ∨ 6 < M.find 125 q ∨ q.length < M.find 125 q then -1 else numA (hexs (q.take (M.find 125 q)) 0)) = ((digs 6 q 0).1 : Int)) ∨
    (((digs 6 q 0).2 = 0 ∨ q[(digs 6 q 0).2]? ≠ some 125) ∧ (if M.find 125 q < 1 ∨ 6 < M.find 125 q ∨ q.length < M.find 125 q then -1 else numA (hexs (q.take (M.find 125 q)) 0)) = -1) := by
  have hle := fnd_le 125 q
  have hat := find_at hf
  have hd := digs_n 6 q 0
  have ht := digs_take 6 q 0
  by_cases hc : M.find 125 q < 1 ∨ 6 < M.find 125 q
  · refine .inr ⟨?_, by rw [if_pos (by omega)]⟩
    by_cases h0 : (digs 6 q 0).2 = 0
    · exact .inl h0
    · refine .inr fun h => ?_
      rcases hc with hc | hc
      · have h00 : M.find 125 q = 0 := by omega
        rw [h00] at hat
        have h1 := digs_hex 6 q 0 0 (by omega)
        obtain ⟨c, hc1, hc2⟩ := h1
        rw [hat] at hc1
        injection hc1 with hc1
        subst hc1
        exact absurd hc2 (by decide)
      · exact find_ne q _ (by omega) h
  · rw [if_neg (by omega)]
    cases hh : hexs (q.take (M.find 125 q)) 0 with
    | some x =>
      have := digs_hexs 6 q 0 (M.find 125 q) x (by omega) hle hh (.inr fun c hc => by
        rw [hat] at hc
        injection hc with hc
        subst hc; decide)
      rw [this]
      exact .inl ⟨rfl, by omega, rfl⟩
    | none =>
      refine .inr ⟨?_, rfl⟩
      by_cases h0 : (digs 6 q 0).2 = 0
      · exact .inl h0
      · refine .inr fun h => ?_
        have : (digs 6 q 0).2 = M.find 125 q := by
          rcases Nat.lt_trichotomy (digs 6 q 0).2 (M.find 125 q) with h1 | h1 | h1
          · exact absurd h (find_ne q _ h1)
          · exact h1
          · obtain ⟨c, hc1, hc2⟩ := digs_hex 6 q 0 (M.find 125 q) h1
            rw [hat] at hc1
            injection hc1 with hc1
            subst hc1
            exact absurd hc2 (by decide)
        rw [this] at ht
        rw [ht] at hh
        cases hh
end Go.Proofs.YtekoeobfddfgpaaGreatDoor.C
set_option linter.unusedVariables false
set_option linter.unusedSimpArgs false
namespace Go.Proofs.YtekoeobfddfgpaaGreatDoor.C
open Go Go.RowKit Go.Proofs.YtekoeobfddfgpaaGreatDoor.M Go.Proofs.YtekoeobfddfgpaaGreatDoor.PAll Go.Proofs.YtekoeobfddfgpaaGreatDoorW.PrintWords
theorem isPt_pt' {t : List UInt8} (h : t ≠ []) : isPt (pt t : Nat) = true := by
  unfold isPt pt
  have h2 := d_facts h
  cases hi : ill t with
  | true =>
    have := ill_b0 h hi
    simp only [if_true]
    rw [Bool.or_eq_true]
    right
    simp
    omega
  | false =>
    have := okc_dc h
    unfold okc at this
    simp only [Bool.false_eq_true, if_false]
    rw [Bool.or_eq_true]
    left
    unfold Lib.validRune
    simp; omega
theorem unit_ref {t : List UInt8} (h : t ≠ []) : glossaryref02_Bytes.f (pt t : Nat) = some (nums8 (t.take (dw t))) := by
  rw [bytes_at _ (isPt_pt' h), pb_pt h, ← take_pt h]
theorem next_at {s : ByteArray} (hs : s.size ≤ 140737488351232) {t : List UInt8} {p : Nat} (h : (bl s).drop p = t) (hne : t ≠ []) (k : Nat) : glossaryref02_Next.f (k + 12) s p = some (((pt t : Nat) : Int), ((dw t : Nat) : Int)) := by
  rw [next_ref s hs p k]
  have : p < (bl s).length := by
    rcases Nat.lt_or_ge p (bl s).length with h2 | h2
    · exact h2
    · rw [List.drop_of_length_le h2] at h; exact absurd h.symm hne
  unfold nextP
  rw [if_neg (by omega), Int.toNat_natCast, h]
theorem bytes_enc {v : Nat} (h : Lib.validRune (v : Int) = true) : glossaryref02_Bytes.f (v : Int) = some (nums8 (enc v)) := by
  have hp : isPt (v : Int) = true := by unfold isPt; rw [h, Bool.true_or]
  have ep : pb (v : Int) = enc v := by unfold pb; rw [if_pos h, enc]
  rw [bytes_at _ hp, ep]
theorem valid_char (v : Nat) : decide (0 ≤ (v : Int) ∧ (v : Int) < 55296 ∨ 57343 < (v : Int) ∧ (v : Int) ≤ 1114111) = Lib.validRune (v : Int) := by
  unfold Lib.validRune
  rw [decide_eq_decide]
def escB (r : List UInt8) (p : Nat) : List Int × Int × Int := match esc r with
  | some x => (nums8 x.1, ((p + x.2 : Nat) : Int), 0)
  | none => ([], (p : Int), 9)
theorem esc_x (r : List UInt8) : esc (120 :: r) = if (digs 2 r 0).2 < 2 ∨ (digs 2 r 0).1 < 128 then none else some ([UInt8.ofNat (digs 2 r 0).1], 4) := by simp only [esc, if_true]
theorem esc_u (d : UInt8) (q : List UInt8) : esc (117 :: d :: q) = if d ≠ 123 ∨ (digs 6 q 0).2 = 0 ∨ q[(digs 6 q 0).2]? ≠ some 125 ∨ Lib.validRune ((digs 6 q 0).1 : Nat) = false then none else some (enc (digs 6 q 0).1, (digs 6 q 0).2 + 4) := by
  simp only [esc]
  rw [if_neg (by decide), if_pos trivial]
theorem esc_u0 : esc [117] = none := by decide
theorem esc_o {c : UInt8} (h1 : c ≠ 120) (h2 : c ≠ 117) (r : List UInt8) : esc (c :: r) = some ((c :: r).take (dw (c :: r)), 1 + dw (c :: r)) := by
  simp only [esc]
  rw [if_neg h1, if_neg h2]
theorem escB_some {r : List UInt8} {x : List UInt8 × Nat} (p : Nat) (h : esc r = some x) : escB r p = (nums8 x.1, ((p + x.2 : Nat) : Int), 0) := by unfold escB; rw [h]
theorem escB_none {r : List UInt8} (p : Nat) (h : esc r = none) : escB r p = ([], (p : Int), 9) := by unfold escB; rw [h]
theorem escaped_ref {s : ByteArray} (hs : s.size ≤ 140737488351232) {r : List UInt8} {p : Nat} (h : (bl s).drop p = 92 :: r) :
    Evn (fun k => glossaryref05_escaped.f k s p) (escB r p) := by
  obtain ⟨h1, h2⟩ := drop_lt h
  have hr := drop_nx h
  have e1 := wn p (by omega)
  cases r with
  | nil =>
    refine Evn.all fun k => ?_
    show glossaryref05_escaped.f k s p = _
    unfold glossaryref05_escaped.f
    rw [e1, if_pos (by simp at h2; omega)]; rfl
  | cons c q =>
    obtain ⟨h3, h4⟩ := drop_lt hr
    have hq := drop_nx hr
    have hbt := bt_c hr
    have start : ∀ k, glossaryref05_escaped.f k s p = if (c.toNat : Int) = 120 then ((glossaryref05_number.f k s (wrap64 ((p : Int) + 2)) (wrap64 ((p : Int) + 4)) 2 2).bind fun t181 => (if t181 < 128 then (some (([] : List Int), (p : Int), 9)) else (some ((([(t181) % 256] : List Int)), wrap64 ((p : Int) + 4), 0)))) else (if (c.toNat : Int) = 117 then ((glossaryref05_find.f k s p 125).bind fun t185 => ((glossaryref05_begins.f s (wrap64 ((p : Int) + 2)) (⟨#[123]⟩ : ByteArray)).bind fun t186 => (if t186 = true then (glossaryref05_escaped.j0 k s p t185 (decide (t185 < 0))) else (glossaryref05_escaped.j0 k s p t185 true)))) else ((glossaryref02_Next.f k s ((p + 1 : Nat) : Int)).bind fun bt192 => ((glossaryref02_Bytes.f bt192.1).bind fun t194 => (some (t194, wrap64 (((p + 1 : Nat) : Int) + bt192.2), 0))))) := by
      intro k
      unfold glossaryref05_escaped.f
      rw [e1, if_neg (by simp at h2; omega), if_pos (by omega), if_pos (by omega), hbt]
    by_cases hx : c = 120
    · subst hx
      have e2 : wrap64 ((p : Int) + 2) = ((p + 2 : Nat) : Int) := by rw [w64 (by omega) (by omega)]; omega
      have e4 : wrap64 ((p : Int) + 4) = ((p + 2 + 2 : Nat) : Int) := by rw [w64 (by omega) (by omega)]; omega
      have hn := number_ref hs (t := q) (p := p + 2) hq (by omega) 2 2 2 (by omega) (by omega) (by omega)
      obtain ⟨N, hN⟩ : ∃ N, (if 2 < 2 ∨ 2 < 2 ∨ q.length < 2 then -1 else numA (hexs (q.take 2) 0)) = N := ⟨_, rfl⟩
      have hx := num_x q
      rw [hN] at hn hx
      refine (Evn.bind (h := fun k t181 => if t181 < 128 then some (([] : List Int), (p : Int), 9) else some (([(t181) % 256] : List Int), wrap64 ((p : Int) + 4), 0)) hn (b := escB (120 :: q) p) ?_).to fun k => ?_
      · refine Evn.all fun k => ?_
        have hxe := esc_x q
        rcases hx with ⟨a1, a2⟩ | ⟨a1, a2⟩
        · rw [if_pos (.inl a1)] at hxe
          rw [escB_none p hxe, a2, if_pos (by decide)]
        · rw [a2]
          by_cases hlt : (digs 2 q 0).1 < 128
          · rw [if_pos (.inr hlt)] at hxe
            rw [escB_none p hxe, if_pos (by omega)]
          · have h256 := digs_lt q 0 (digs 2 q 0).1 (digs 2 q 0).2 rfl rfl
            rw [if_neg (by omega)] at hxe
            rw [escB_some p hxe, if_neg (by omega), e4]
            simp only [nums8, List.map_cons, List.map_nil, u8n h256]
            have : ((digs 2 q 0).1 : Int) % 256 = ((digs 2 q 0).1 : Int) := by omega
            rw [this]
      · show glossaryref05_escaped.f k s p = _
        rw [start k, if_pos (by decide), e2, e4]
        rfl
    · have hx' : ¬ (c.toNat : Int) = 120 := fun e => hx (UInt8.toNat_inj.1 (by show c.toNat = 120; omega))
      by_cases hu : c = 117
      · subst hu
        have e2 : wrap64 ((p : Int) + 2) = ((p + 2 : Nat) : Int) := by rw [w64 (by omega) (by omega)]; omega
        have hb := begins_ref hs hq ⟨#[123]⟩ (by decide) (by omega)
        have hf := find_at_ref hs 125 h (by omega)
        obtain ⟨F, hF⟩ : ∃ F, (if M.find 125 (92 :: 117 :: q) = (92 :: 117 :: q).length then -1 else ((p + M.find 125 (92 :: 117 :: q) : Nat) : Int)) = F := ⟨_, rfl⟩
        rw [hF] at hf
        have jbad : Evn (fun k => glossaryref05_escaped.j0 k s p F true) ([], (p : Int), 9) := by
          refine (Evn.all (g := fun _ => some (([] : List Int), (p : Int), (9 : Int))) fun k => rfl).at fun k => ?_
          simp [glossaryref05_escaped.j0]
        have go : ∀ b, Evn (fun k => if decide (q.take 1 = [123]) = true then (glossaryref05_escaped.j0 k s p F (decide (F < 0))) else (glossaryref05_escaped.j0 k s p F true)) b → Evn (fun k => glossaryref05_escaped.f k s p) b := by
          intro b hb2
          refine (Evn.bind (h := fun k t185 => (glossaryref05_begins.f s ((p + 2 : Nat) : Int) (⟨#[123]⟩ : ByteArray)).bind fun t186 => (if t186 = true then (glossaryref05_escaped.j0 k s p t185 (decide (t185 < 0))) else (glossaryref05_escaped.j0 k s p t185 true))) hf (b := b) (hb2.to fun k => ?_)).to fun k => ?_
          · show (glossaryref05_begins.f s ((p + 2 : Nat) : Int) (⟨#[123]⟩ : ByteArray)).bind _ = _
            rw [hb, Option.bind_some]; rfl
          · show glossaryref05_escaped.f k s p = _
            rw [start k, if_neg (by decide), if_pos (by decide), e2]
            rfl
        refine go _ ?_
        clear go start hbt hx' hx hb hf
        cases q with
        | nil =>
          rw [escB_none p esc_u0]
          refine jbad.to fun k => ?_
          show (if decide (([] : List UInt8).take 1 = [123]) = true then _ else _) = _
          rw [if_neg (by simp)]
        | cons d q =>
          by_cases hd : d = 123
          · subst hd
            have hfq : M.find 125 (92 :: 117 :: 123 :: q) = M.find 125 q + 3 := by
              rw [fnd_cons, if_neg (by decide), fnd_cons, if_neg (by decide), fnd_cons, if_neg (by decide)]
            have hq3 : (bl s).drop (p + 3) = q := drop_nx hq
            simp only [hfq, List.length_cons] at hF
            by_cases hnf : M.find 125 q = q.length
            · rw [if_pos (by omega)] at hF
              subst hF
              have he : escB (117 :: 123 :: q) p = ([], (p : Int), 9) := by
                refine escB_none p ?_
                rw [esc_u, if_pos]
                refine .inr (.inr (.inl fun h => ?_))
                obtain ⟨h5, h6⟩ := List.getElem?_eq_some_iff.1 h
                exact find_ne q _ (by omega) h
              rw [he]
              refine jbad.to fun k => ?_
              show (if decide ((123 :: q).take 1 = [123]) = true then _ else _) = _
              rw [if_pos (by simp), decide_eq_true (by decide)]
            · rw [if_neg (by omega)] at hF
              have hF2 : F = ((p + 3 + M.find 125 q : Nat) : Int) := by rw [← hF, show p + (M.find 125 q + 3) = p + 3 + M.find 125 q by omega]
              clear hF hfq
              have hqle := fnd_le 125 q
              have hql : q.length + (p + 3) = s.size := by simp at h4; omega
              have hn := number_ref hs (t := q) (p := p + 3) hq3 (by omega) (M.find 125 q) 1 6 (by omega) (by omega) (by omega)
              rw [← hF2] at hn
              have e3 : wrap64 ((p : Int) + 3) = ((p + 3 : Nat) : Int) := by rw [w64 (by omega) (by omega)]; omega
              have jj : ∀ (N : Int) b, Evn (fun k => glossaryref05_number.f k s ((p + 3 : Nat) : Int) F 1 6) N → Evn (fun k => if N < 0 then (glossaryref05_escaped.j1 k p F N true) else ((glossaryref02_Char.f N).bind fun t188 => (glossaryref05_escaped.j1 k p F N (!t188)))) b → Evn (fun k => if decide ((123 :: q).take 1 = [123]) = true then (glossaryref05_escaped.j0 k s p F (decide (F < 0))) else (glossaryref05_escaped.j0 k s p F true)) b := by
                intro N b h5 h6
                refine ((Evn.bind (h := fun k t187 => if t187 < 0 then (glossaryref05_escaped.j1 k p F t187 true) else ((glossaryref02_Char.f t187).bind fun t188 => (glossaryref05_escaped.j1 k p F t187 (!t188)))) h5 h6).at (g := fun k => glossaryref05_escaped.j0 k s p F false) fun k => ?_).to fun k => ?_
                · simp only [glossaryref05_escaped.j0]
                  rw [if_neg (by decide), e3]
                · show (if decide ((123 :: q).take 1 = [123]) = true then _ else _) = _
                  rw [if_pos (by simp), decide_eq_false (by rw [hF2]; exact Int.not_lt.mpr (Int.natCast_nonneg _))]
              refine jj _ _ hn ?_
              have hbn : ((p + 3 + M.find 125 q : Nat) : Int) + 1 ≤ 9223372036854775807 := by clear hn jj hF2; omega
              have bad1 : ∀ N : Int, Evn (fun k => glossaryref05_escaped.j1 k p F N true) ([], (p : Int), 9) := by
                intro N
                refine (Evn.all (g := fun _ => some (([] : List Int), (p : Int), (9 : Int))) fun k => rfl).at fun k => ?_
                simp [glossaryref05_escaped.j1]
              rcases num_u q hnf with ⟨a1, a2, a3⟩ | ⟨a1, a2⟩
              · rw [a3]
                have a4 : (digs 6 q 0).2 = M.find 125 q := by rw [a1]
                have hat := find_at hnf
                cases hv : Lib.validRune ((digs 6 q 0).1 : Int) with
                | true =>
                  have he : escB (117 :: 123 :: q) p = (nums8 (enc (digs 6 q 0).1), wrap64 (F + 1), 0) := by
                    have hes := esc_u 123 q
                    rw [if_neg (by
                      rw [a4, hat, hv]
                      rintro (h | h | h | h)
                      · exact h rfl
                      · rw [h] at a2; exact absurd a2 (by decide)
                      · exact h rfl
                      · cases h), a4] at hes
                    rw [escB_some p hes, hF2, wn _ hbn]
                    simp only
                    rw [show p + (M.find 125 q + 4) = p + 3 + M.find 125 q + 1 by omega]
                  rw [he]
                  have hvb := bytes_enc hv
                  have hlt : ((digs 6 q 0).1 : Int) ≤ 1114111 := by unfold Lib.validRune at hv; simp at hv; omega
                  refine (Evn.all (g := fun _ => some (nums8 (enc (digs 6 q 0).1), wrap64 (F + 1), (0 : Int))) fun k => rfl).at fun k => ?_
                  show (if ((digs 6 q 0).1 : Int) < 0 then _ else _) = _
                  rw [if_neg (by omega), char_at, valid_char, hv, Option.bind_some]
                  simp only [glossaryref05_escaped.j1]
                  rw [if_neg (by decide), w32 (by omega) (by omega), hvb]
                  rfl
                | false =>
                  have he : escB (117 :: 123 :: q) p = ([], (p : Int), 9) := by
                    refine escB_none p ?_
                    rw [esc_u, if_pos (.inr (.inr (.inr hv)))]
                  rw [he]
                  refine (bad1 ((digs 6 q 0).1 : Int)).to fun k => ?_
                  show (if ((digs 6 q 0).1 : Int) < 0 then _ else _) = _
                  rw [if_neg (by omega), char_at, valid_char, hv, Option.bind_some]
                  rfl
              · rw [a2]
                have he : escB (117 :: 123 :: q) p = ([], (p : Int), 9) := by
                  refine escB_none p ?_
                  rw [esc_u, if_pos]
                  rcases a1 with a1 | a1
                  · exact .inr (.inl a1)
                  · exact .inr (.inr (.inl a1))
                rw [he]
                refine (bad1 (-1)).to fun k => ?_
                show (if (-1 : Int) < 0 then _ else _) = _
                rw [if_pos (by decide)]
          · have he : escB (117 :: d :: q) p = ([], (p : Int), 9) := by
              refine escB_none p ?_
              rw [esc_u, if_pos (.inl hd)]
            rw [he]
            refine jbad.to fun k => ?_
            show (if decide ((d :: q).take 1 = [123]) = true then _ else _) = _
            rw [if_neg (by simp [hd])]
      · have hu' : ¬ (c.toNat : Int) = 117 := fun e => hu (UInt8.toNat_inj.1 (by show c.toNat = 117; omega))
        have he : escB (c :: q) p = (nums8 ((c :: q).take (dw (c :: q))), ((p + (1 + dw (c :: q)) : Nat) : Int), 0) := by
          rw [escB_some p (esc_o hx hu q)]
        rw [he]
        have hdl := dw_len (l := c :: q) (by simp)
        refine ⟨12, fun k hk => ?_⟩
        obtain ⟨j, rfl⟩ : ∃ j, k = j + 12 := ⟨k - 12, by omega⟩
        show glossaryref05_escaped.f (j + 12) s p = _
        rw [start, if_neg hx', if_neg hu', next_at hs hr (by simp) j, Option.bind_some]
        simp only
        rw [unit_ref (by simp), Option.bind_some]
        congr 2
        rw [List.length_cons] at hdl
        rw [w64 (by omega) (by omega)]
        congr 1
        omega
end Go.Proofs.YtekoeobfddfgpaaGreatDoor.C
set_option linter.unusedVariables false
set_option linter.unusedSimpArgs false
namespace Go.Proofs.YtekoeobfddfgpaaGreatDoor.C
open Go Go.RowKit Go.Proofs.YtekoeobfddfgpaaGreatDoor.M Go.Proofs.YtekoeobfddfgpaaGreatDoor.PAll Go.Proofs.YtekoeobfddfgpaaGreatDoorW.PrintWords
theorem nums8_snoc (a : List UInt8) (b : UInt8) : nums8 (a ++ [b]) = nums8 a ++ [(b.toNat : Int)] := by simp [nums8]
def quoB (out u : List UInt8) (i p : Nat) : List Int × Int × Int := match quo u with
  | some x => (nums8 (out ++ x.1), ((i + x.2 : Nat) : Int), 0)
  | none => ([], (p : Int), 10)
theorem quoB_some {out u : List UInt8} {i p : Nat} {x : List UInt8 × Nat} (h : quo u = some x) : quoB out u i p = (nums8 (out ++ x.1), ((i + x.2 : Nat) : Int), 0) := by unfold quoB; rw [h]
theorem quoB_none {out u : List UInt8} {i p : Nat} (h : quo u = none) : quoB out u i p = ([], (p : Int), 10) := by unfold quoB; rw [h]
theorem quoB_map {out u v : List UInt8} {i p : Nat} {c : UInt8} {d : Nat} (h : quo u = (quo v).map fun x => (c :: x.1, x.2 + d)) : quoB out u i p = quoB (out ++ [c]) v (i + d) p := by
  cases hv : quo v with
  | none => rw [quoB_none (by rw [h, hv]; rfl), quoB_none hv]
  | some x =>
    rw [quoB_some (x := (c :: x.1, x.2 + d)) (by rw [h, hv]; rfl), quoB_some hv]
    simp only [List.append_assoc, List.singleton_append]
    rw [show i + (x.2 + d) = i + d + x.2 by omega]
theorem quoted_l0 {s : ByteArray} (hs : s.size ≤ 140737488351232) (p : Nat) : ∀ (n : Nat) (u : List UInt8), u.length ≤ n → ∀ (i : Nat) (out : List UInt8), (bl s).drop i = u → out.length ≤ i → i ≤ s.size →
    Evn (fun k => glossaryref05_quoted.l0 k s p (nums8 out) i) (quoB out u i p) := by
  intro n
  induction n with
  | zero =>
    intro u hu i out h ho hi
    have : u = [] := List.eq_nil_of_length_eq_zero (by omega)
    subst this
    have := drop_ge h
    rw [quoB_none (by rfl)]
    refine (Evn.all (g := fun _ => some (([] : List Int), (p : Int), (10 : Int))) fun k => rfl).at fun k => ?_
    simp only [glossaryref05_quoted.l0]
    rw [if_neg (by omega)]
  | succ n ih =>
    intro u hu i out h ho hi
    cases u with
    | nil =>
      have := drop_ge h
      rw [quoB_none (by rfl)]
      refine (Evn.all (g := fun _ => some (([] : List Int), (p : Int), (10 : Int))) fun k => rfl).at fun k => ?_
      simp only [glossaryref05_quoted.l0]
      rw [if_neg (by omega)]
    | cons c v =>
      obtain ⟨h1, h2⟩ := drop_lt h
      have hbt := bt_c h
      have hv := drop_nx h
      have e1 := wn i (by omega)
      have hol : (nums8 out).length < 140737488355328 := by rw [nums8_len]; omega
      by_cases hc : c = 39
      · subst hc
        have hb := begins_ref hs h ⟨#[39, 39]⟩ (by decide) hi
        have two : ∀ t, (decide ((39 :: v).take 2 = [39, 39])) = t → ∀ b, Evn (fun k => glossaryref05_quoted.j1 k s p (nums8 out) i (!t)) b → Evn (fun k => glossaryref05_quoted.l0 k s p (nums8 out) i) b := by
          intro t ht b hb2
          refine hb2.at fun k => ?_
          rw [glossaryref05_quoted.l0]
          rw [if_pos (by omega), if_pos (by omega), hbt, if_pos (by decide), hb, Option.bind_some]
          rw [← ht]; rfl
        cases v with
        | nil =>
          refine two false (by decide) _ ?_
          rw [quoB_some (quo_close (r := []) (by simp)), List.append_nil]
          refine (Evn.all (g := fun _ => some (nums8 out, wrap64 ((i : Int) + 1), (0 : Int))) fun k => by rw [e1]).at fun k => ?_
          simp only [glossaryref05_quoted.j1]
          simp
        | cons d v =>
          by_cases hd : d = 39
          · obtain ⟨h3, h4⟩ := drop_lt hv
            have hbt2 := bt_c hv
            have e2 := wn (i + 1) (by clear hbt hbt2; omega)
            have k1 : i + 2 ≤ s.size := by clear hbt hbt2; omega
            have k2 : v.length ≤ n := by clear hbt hbt2; simp at hu; omega
            have k3 : (out ++ [d]).length ≤ i + 2 := by clear hbt hbt2; simp; omega
            have k4 : (0 : Int) ≤ (i : Int) := Int.natCast_nonneg _
            have k5 : (i : Int) < (s.size : Int) := by clear hbt hbt2; omega
            have k6 : (0 : Int) ≤ ((i + 1 : Nat) : Int) := Int.natCast_nonneg _
            have k7 : ((i + 1 : Nat) : Int) < (s.size : Int) := by clear hbt hbt2; omega
            have hqm : quo (39 :: d :: v) = (quo v).map fun x => (d :: x.1, x.2 + 2) := by rw [hd]; exact quo_two v
            refine two true (by simp [hd]) _ ?_
            rw [quoB_map hqm]
            have hi2 := ih v k2 (i + 2) (out ++ [d]) (drop_nx hv) k3 k1
            refine hi2.at fun k => ?_
            rw [glossaryref05_quoted.j1]
            rw [if_neg (by decide), if_pos k4, if_pos k5, hbt, if_pos (by decide), e1, if_pos k6, if_pos k7, if_pos hol, hbt2, e2, nums8_snoc]
          · refine two false (by simp [hd]) _ ?_
            rw [quoB_some (quo_close (r := d :: v) (by intro d' r' e; injection e with e1 e2; rw [← e1]; exact hd)), List.append_nil]
            refine (Evn.all (g := fun _ => some (nums8 out, wrap64 ((i : Int) + 1), (0 : Int))) fun k => by rw [e1]).at fun k => ?_
            simp only [glossaryref05_quoted.j1]
            simp
      · have hc' : ¬ (c.toNat : Int) = 39 := fun e => hc (UInt8.toNat_inj.1 (by show c.toNat = 39; omega))
        rw [quoB_map (quo_other hc v)]
        have hi2 := ih v (by simp at hu; omega) (i + 1) (out ++ [c]) hv (by simp; omega) (by omega)
        refine (hi2.at (g := fun k => glossaryref05_quoted.j1 k s p (nums8 out) i false) fun k => ?_).at fun k => ?_
        · rw [glossaryref05_quoted.j1]
          rw [if_neg (by decide), if_pos (by omega), if_pos (by omega), hbt, if_neg hc', if_pos hol, e1, nums8_snoc]
        · rw [glossaryref05_quoted.l0]
          rw [if_pos (by omega), if_pos (by omega), hbt, if_neg hc']
theorem quoted_ref {s : ByteArray} (hs : s.size ≤ 140737488351232) {r : List UInt8} {p : Nat} (h : (bl s).drop p = 39 :: r) : Evn (fun k => glossaryref05_quoted.f k s p) (quoB [] r (p + 1) p) := by
  obtain ⟨h1, h2⟩ := drop_lt h
  refine (quoted_l0 hs p _ r (Nat.le_refl _) (p + 1) [] (drop_nx h) (by simp) (by omega)).to fun k => ?_
  show glossaryref05_quoted.f k s p = _
  unfold glossaryref05_quoted.f
  rw [wn p (by omega)]; rfl
theorem text5_l1 {s : ByteArray} {r : ByteArray × Int × Int} {x9 : Int} {b : List Int} : ∀ (m j : Nat) (x7 : List Int), b.length = j + m → x7.length + m ≤ 140737488355328 → b.length ≤ 1000000000000000 →
    Evn (fun k => glossaryref05_text.l0 k s x9 (x7 ++ b.drop j)) r → Evn (fun k => glossaryref05_text.l1 k s x7 b x9 j) r := by
  intro m
  induction m with
  | zero =>
    intro j x7 h1 h2 h3 h
    rw [List.drop_of_length_le (by omega), List.append_nil] at h
    refine h.at fun k => ?_
    rw [glossaryref05_text.l1]
    rw [if_neg (by omega)]
  | succ m ih =>
    intro j x7 h1 h2 h3 h
    have hj : j < b.length := by omega
    have hi := ih (j + 1) (x7 ++ [rd b (j : Int)]) (by omega) (by simp; omega) h3 (by
      rw [rd_some (List.getElem?_eq_getElem hj), List.append_assoc]
      have e : [b[j]] ++ b.drop (j + 1) = b.drop j := by rw [List.drop_eq_getElem_cons hj]; rfl
      rw [e]; exact h)
    refine hi.at fun k => ?_
    rw [glossaryref05_text.l1]
    rw [if_pos (by omega), if_pos (by omega), if_pos (by omega), wn j (by omega)]
def textB (out u : List UInt8) (i : Nat) : ByteArray × Int × Int :=
  if (textM u).2.2 = 0 then (ba (out ++ (textM u).1), ((i + (textM u).2.1 : Nat) : Int), 0) else (⟨#[]⟩, ((i + (textM u).2.1 : Nat) : Int), (((textM u).2.2 : Nat) : Int))
theorem textB_bad {out u : List UInt8} {i : Nat} (hne : u ≠ []) (h : (pieceM u).2.2 ≠ 0) : textB out u i = (⟨#[]⟩, (i : Int), (((pieceM u).2.2 : Nat) : Int)) := by
  have e : textM u = ([], 0, (pieceM u).2.2) := by rw [textM.eq_1, dif_neg hne, if_pos h]
  unfold textB
  rw [e, if_neg h]; rfl
theorem textB_stop {out u : List UInt8} {i : Nat} (hne : u ≠ []) (h : (pieceM u).2.2 = 0) (hw : (pieceM u).2.1 = 0) : textB out u i = (ba out, (i : Int), 0) := by
  have e : textM u = ([], 0, 0) := by rw [textM.eq_1, dif_neg hne, if_neg (by rw [h]; simp), dif_pos hw]
  unfold textB
  rw [e, if_pos rfl, List.append_nil]; rfl
theorem textB_step {out u : List UInt8} {i : Nat} (hne : u ≠ []) (h : (pieceM u).2.2 = 0) (hw : (pieceM u).2.1 ≠ 0) : textB out u i = textB (out ++ (pieceM u).1) (u.drop (pieceM u).2.1) (i + (pieceM u).2.1) := by
  have e : textM u = ((pieceM u).1 ++ (textM (u.drop (pieceM u).2.1)).1, (pieceM u).2.1 + (textM (u.drop (pieceM u).2.1)).2.1, (textM (u.drop (pieceM u).2.1)).2.2) := by
    rw [textM.eq_1, dif_neg hne, if_neg (by rw [h]; simp), dif_neg hw]
  unfold textB
  rw [e]
  simp only [List.append_assoc, Nat.add_assoc]
theorem textB_nil (out : List UInt8) (i : Nat) : textB out [] i = (ba out, (i : Int), 0) := by
  have e : textM [] = ([], 0, 0) := by rw [textM]; simp
  unfold textB
  rw [e, if_pos rfl, List.append_nil]; rfl
theorem text_l0 {s : ByteArray} (hs : s.size ≤ 140737488351232) : ∀ (n : Nat) (u : List UInt8), u.length ≤ n → ∀ (i : Nat) (out : List UInt8), (bl s).drop i = u → out.length ≤ i → i ≤ s.size →
    Evn (fun k => glossaryref05_text.l0 k s i (nums8 out)) (textB out u i) := by
  intro n
  induction n with
  | zero =>
    intro u hu i out h ho hi
    have : u = [] := List.eq_nil_of_length_eq_zero (by omega)
    subst this
    have := drop_ge h
    rw [textB_nil]
    refine (Evn.all (g := fun _ => some (ba out, (i : Int), (0 : Int))) fun k => rfl).at fun k => ?_
    simp only [glossaryref05_text.l0]
    rw [if_neg (by omega), str_nums8]; rfl
  | succ n ih =>
    intro u hu i out h ho hi
    by_cases hne : u = []
    · subst hne
      have := drop_ge h
      rw [textB_nil]
      refine (Evn.all (g := fun _ => some (ba out, (i : Int), (0 : Int))) fun k => rfl).at fun k => ?_
      simp only [glossaryref05_text.l0]
      rw [if_neg (by omega), str_nums8]; rfl
    -- what follows a piece
    have stepJ : ∀ (part : List UInt8) (w : Nat), pieceM u = (part, w, 0) → w ≠ 0 → Evn (fun k => glossaryref05_text.j2 k s i (nums8 out) (nums8 part) ((i + w : Nat) : Int) 0) (textB out u i) := by
      intro part w hp hw
      have hsh := pieceM_short u
      have hwl := pieceM_w (t := u)
      have hul := congrArg List.length h
      rw [List.length_drop, bl_len] at hul
      rw [textB_step hne (by rw [hp]) (by rw [hp]; exact hw)]
      rw [hp] at hsh hwl ⊢
      simp only at hsh hwl ⊢
      have hdr : (bl s).drop (i + w) = u.drop w := by rw [← List.drop_drop, h]
      have hi2 := ih (u.drop w) (by simp; omega) (i + w) (out ++ part) hdr (by simp; omega) (by omega)
      have h1 := text5_l1 (s := s) (r := textB (out ++ part) (u.drop w) (i + w)) (x9 := ((i + w : Nat) : Int)) (b := nums8 part) part.length 0 (nums8 out) (by rw [nums8_len]; omega) (by rw [nums8_len]; omega) (by rw [nums8_len]; omega) (by rw [List.drop_zero, ← nums8_append]; exact hi2)
      refine h1.at fun k => ?_
      rw [glossaryref05_text.j2]
      rw [if_pos rfl]; rfl
    have badJ : ∀ (x8 : List Int) (x9 : Int) (no : Nat), (pieceM u).2.2 = no → no ≠ 0 → Evn (fun k => glossaryref05_text.j2 k s i (nums8 out) x8 x9 (no : Nat)) (textB out u i) := by
      intro x8 x9 no hp hno
      rw [textB_bad hne (by rw [hp]; exact hno), hp]
      refine (Evn.all (g := fun _ => some ((⟨#[]⟩ : ByteArray), (i : Int), (no : Int))) fun k => rfl).at fun k => ?_
      rw [glossaryref05_text.j2]
      rw [if_neg (by omega)]
    cases u with
    | nil => exact absurd rfl hne
    | cons c r =>
      obtain ⟨h1, h2⟩ := drop_lt h
      have hbt := bt_c h
      by_cases h39 : c = 39
      · subst h39
        have hq := quoted_ref hs h
        refine (Evn.bind (h := fun k (bt197 : List Int × Int × Int) => glossaryref05_text.j2 k s i (nums8 out) bt197.1 bt197.2.1 bt197.2.2) hq (b := textB out (39 :: r) i) ?_).at fun k => ?_
        · cases hh : quo r with
          | none =>
            rw [quoB_none hh]
            exact badJ [] (i : Int) 10 (by simp [pieceM, hh]) (by decide)
          | some x =>
            rw [quoB_some hh, List.nil_append, show i + 1 + x.2 = i + (x.2 + 1) by omega]
            exact stepJ x.1 (x.2 + 1) (by simp [pieceM, hh]) (by omega)
        · rw [glossaryref05_text.l0]
          rw [if_pos (by omega), if_pos (by omega), hbt, if_pos (by decide)]
      · have h39' : ¬ (c.toNat : Int) = 39 := fun e => h39 (UInt8.toNat_inj.1 (by show c.toNat = 39; omega))
        by_cases h92 : c = 92
        · subst h92
          have hq := escaped_ref hs h
          refine (Evn.bind (h := fun k (bt202 : List Int × Int × Int) => glossaryref05_text.j2 k s i (nums8 out) bt202.1 bt202.2.1 bt202.2.2) hq (b := textB out (92 :: r) i) ?_).at fun k => ?_
          · cases hh : esc r with
            | none =>
              rw [escB_none i hh]
              exact badJ [] (i : Int) 9 (by simp [pieceM, hh]) (by decide)
            | some x =>
              rw [escB_some i hh]
              have := esc_w hh
              exact stepJ x.1 x.2 (by simp [pieceM, hh]) (by omega)
          · rw [glossaryref05_text.l0]
            rw [if_pos (by omega), if_pos (by omega), hbt, if_neg (by decide), if_pos (by decide)]
        · have h92' : ¬ (c.toNat : Int) = 92 := fun e => h92 (UInt8.toNat_inj.1 (by show c.toNat = 92; omega))
          have hbl : glossaryref05_Blank.f (c.toNat : Int) = some (blk c) := by
            have : ∀ c : UInt8, glossaryref05_Blank.f (c.toNat : Int) = some (blk c) := u8_all (by decide +kernel)
            exact this c
          have hsg : ∀ k, glossaryref05_Signs.f (k + 20) (c.toNat : Int) = some (sgn c) := by
            have : ∀ c : UInt8, glossaryref05_Signs.f 20 (c.toNat : Int) = some (sgn c) := u8_all (by decide +kernel)
            intro k
            induction k with
            | zero => exact this c
            | succ k ihk => exact glossaryref05_Signs.mono _ _ _ ihk
          have hpm : pieceM (c :: r) = if blk c || sgn c then ([], 0, 0) else ((c :: r).take (dw (c :: r)), dw (c :: r), 0) := by simp only [pieceM, if_neg h39, if_neg h92]
          have goJ : ∀ b, (blk c || sgn c) = b → Evn (fun k => glossaryref05_text.j1 k s i (nums8 out) 0 b) (textB out (c :: r) i) → Evn (fun k => glossaryref05_text.l0 k s i (nums8 out)) (textB out (c :: r) i) := by
            intro b hb hj
            obtain ⟨K, hK⟩ := hj
            refine ⟨K + 21, fun k hk => ?_⟩
            obtain ⟨k, rfl⟩ : ∃ j, k = (j + 20) + 1 := ⟨k - 21, by omega⟩
            show glossaryref05_text.l0 ((k + 20) + 1) s i (nums8 out) = _
            have hK' := hK (k + 20) (by omega)
            rw [glossaryref05_text.l0]
            rw [if_pos (by omega), if_pos (by omega), hbt, if_neg h39', if_neg h92', hbl, Option.bind_some]
            cases hbk : blk c with
            | true =>
              rw [hbk, Bool.true_or] at hb
              subst hb
              rw [if_pos rfl]
              exact hK'
            | false =>
              rw [hbk, Bool.false_or] at hb
              rw [if_neg (by decide), hsg k, Option.bind_some, hb]
              exact hK'
          cases hb : (blk c || sgn c) with
          | true =>
            refine goJ true hb ?_
            rw [textB_stop (by simp) (by rw [hpm, hb]; rfl) (by rw [hpm, hb]; rfl)]
            refine (Evn.all (g := fun _ => some (ba out, (i : Int), (0 : Int))) fun k => rfl).at fun k => ?_
            rw [glossaryref05_text.j1]
            rw [if_pos rfl, str_nums8]; rfl
          | false =>
            refine goJ false hb ?_
            have hdp := dw_pos (l := c :: r) (by simp)
            have hdl := dw_len (l := c :: r) (by simp)
            have hs1 := stepJ _ _ (by rw [hpm, hb]; rfl) (by omega)
            obtain ⟨K, hK⟩ := hs1
            refine ⟨K + 13, fun k hk => ?_⟩
            obtain ⟨k, rfl⟩ : ∃ j, k = (j + 12) + 1 := ⟨k - 13, by omega⟩
            show glossaryref05_text.j1 ((k + 12) + 1) s i (nums8 out) 0 false = _
            have hK' := hK (k + 12) (by omega)
            rw [glossaryref05_text.j1]
            rw [if_neg (by decide), next_at hs h (by simp) k, Option.bind_some]
            simp only
            rw [unit_ref (by simp), Option.bind_some]
            have ew : wrap64 ((i : Int) + ((dw (c :: r) : Nat) : Int)) = ((i + dw (c :: r) : Nat) : Int) := by
              rw [List.length_cons] at hdl
              rw [w64 (by omega) (by omega)]; omega
            rw [ew]
            exact hK'
theorem text_ref {s : ByteArray} (hs : s.size ≤ 140737488351232) {u : List UInt8} {p : Nat} (h : (bl s).drop p = u) (hp : p ≤ s.size) : Evn (fun k => glossaryref05_text.f k s p) (textB [] u p) :=
  (text_l0 hs _ u (Nat.le_refl _) p [] h (by simp) hp).to fun k => rfl
end Go.Proofs.YtekoeobfddfgpaaGreatDoor.C
set_option linter.unusedVariables false
set_option linter.unusedSimpArgs false
namespace Go.Proofs.YtekoeobfddfgpaaGreatDoor.C
open Go Go.RowKit Go.Proofs.YtekoeobfddfgpaaGreatDoor.M Go.Proofs.YtekoeobfddfgpaaGreatDoor.PAll Go.Proofs.YtekoeobfddfgpaaGreatDoorW.PrintWords
theorem blank_at (c : UInt8) : glossaryref05_Blank.f (c.toNat : Int) = some (blk c) := by
  have : ∀ c : UInt8, glossaryref05_Blank.f (c.toNat : Int) = some (blk c) := u8_all (by decide +kernel)
  exact this c
def prevB (l : List UInt8) : Nat → Bool
  | 0 => false
  | i + 1 => blk (l.getD i 0)
theorem spaced_l0 {x : ByteArray} (hx : x.size ≤ 10000000000000) : ∀ (u : List UInt8) (i : Nat) (out : List UInt8) (ow : Bool), (bl x).drop i = u → ow = (!out.isEmpty && prevB (bl x) i) → out.length ≤ 2 * i →
    Evn (fun k => glossaryref05_spaced.l0 k x (nums8 out) i) (ba (out ++ spc (!out.isEmpty) ow u)) := by
  intro u
  induction u with
  | nil =>
    intro i out ow h how ho
    have := drop_ge h
    refine (Evn.all (g := fun _ => some (ba out)) fun k => by simp [spc]).at fun k => ?_
    simp only [glossaryref05_spaced.l0]
    rw [if_neg (by omega), str_nums8]; rfl
  | cons c r ih =>
    intro i out ow h how ho
    obtain ⟨h1, h2⟩ := drop_lt h
    have hbt := bt_c h
    have hr := drop_nx h
    have e1 := wn i (by omega)
    have hge : (bl x).getD i 0 = c := by
      have : (bl x)[i]? = some c := by
        have := congrArg (·[0]?) h
        simpa using this
      rw [List.getD_eq_getElem?_getD, this]; rfl
    have z0 : (0 : Int) ≤ (i : Int) := Int.natCast_nonneg _
    have z1 : (i : Int) < (x.size : Int) := by omega
    have hol : (nums8 out).length < 140737488355328 := by rw [nums8_len]; omega
    cases hb : blk c with
    | true =>
      have hi := ih (i + 1) out (!out.isEmpty && true) hr (by rw [prevB, hge, hb]) (by omega)
      rw [spc, if_pos hb]
      rw [Bool.and_true] at hi
      refine hi.at fun k => ?_
      rw [glossaryref05_spaced.l0]
      rw [if_pos z1, if_pos z0, hbt, blank_at, hb, Option.bind_some, if_pos rfl, e1]
    | false =>
      rw [spc, if_neg (by rw [hb]; decide)]
      have key : ∀ o1, o1 = (if ow = true then out ++ [32] else out) → Evn (fun k => glossaryref05_spaced.l0 k x (nums8 (o1 ++ [c])) ((i + 1 : Nat) : Int)) (ba (out ++ ((if ow = true then [32] else []) ++ c :: spc true false r))) := by
        intro o1 ho1
        have hi := ih (i + 1) (o1 ++ [c]) false hr (by rw [prevB, hge, hb]; simp) (by rw [ho1]; cases ow <;> simp <;> omega)
        have e2 : (!(o1 ++ [c]).isEmpty) = true := by simp
        rw [e2] at hi
        have e3 : o1 ++ [c] ++ spc true false r = out ++ ((if ow = true then [32] else []) ++ c :: spc true false r) := by
          rw [ho1]; cases ow <;> simp
        rw [e3] at hi
        exact hi
      cases ow with
      | true =>
        have hk := key (out ++ [32]) (by simp)
        simp only [Bool.true_eq, Bool.and_eq_true, Bool.not_eq_true'] at how
        obtain ⟨hne, hpv⟩ := how
        cases i with
        | zero => simp [prevB] at hpv
        | succ j =>
          rw [prevB] at hpv
          have hj : (bl x).drop j = (bl x).getD j 0 :: (bl x).drop (j + 1) := by
            have hjl : j < (bl x).length := by rw [bl_len]; omega
            rw [List.getD_eq_getElem?_getD, List.getElem?_eq_getElem hjl, Option.getD_some]
            exact (List.getElem_cons_drop ..).symm
          have hbj := bt_c hj
          have e4 : wrap64 (((j + 1 : Nat) : Int) - 1) = (j : Int) := by rw [w64 (by omega) (by omega)]; omega
          have z2 : ((j + 1 : Nat) : Int) > 0 := by omega
          have z3 : (0 : Int) ≤ (j : Int) := Int.natCast_nonneg _
          have z4 : (j : Int) < (x.size : Int) := by omega
          have z5 : ((nums8 out).length : Int) > 0 := by
            rw [nums8_len]
            have : out ≠ [] := by intro e; rw [e] at hne; simp at hne
            have := List.length_pos_iff.2 this
            omega
          have z6 : (nums8 out ++ [32]).length < 140737488355328 := by rw [List.length_append, nums8_len]; simp; omega
          refine hk.at fun k => ?_
          rw [glossaryref05_spaced.l0]
          rw [if_pos z1, if_pos z0, hbt, blank_at, hb, Option.bind_some, if_neg (by decide), if_pos z2, e4, if_pos z3, if_pos z4, hbj, blank_at, hpv, Option.bind_some, if_pos rfl, if_pos z5, if_pos hol, Option.bind_some, if_pos z6, e1, nums8_snoc, nums8_snoc]
          rfl
      | false =>
        have hk := key out (by simp)
        refine hk.at fun k => ?_
        rw [glossaryref05_spaced.l0]
        rw [if_pos z1, if_pos z0, hbt, blank_at, hb, Option.bind_some, if_neg (by decide), e1, nums8_snoc]
        cases i with
        | zero => rw [if_neg (by decide), if_pos hol]
        | succ j =>
          have hj : (bl x).drop j = (bl x).getD j 0 :: (bl x).drop (j + 1) := by
            have hjl : j < (bl x).length := by rw [bl_len]; omega
            rw [List.getD_eq_getElem?_getD, List.getElem?_eq_getElem hjl, Option.getD_some]
            exact (List.getElem_cons_drop ..).symm
          have hbj := bt_c hj
          have e4 : wrap64 (((j + 1 : Nat) : Int) - 1) = (j : Int) := by rw [w64 (by omega) (by omega)]; omega
          have z2 : ((j + 1 : Nat) : Int) > 0 := by omega
          have z3 : (0 : Int) ≤ (j : Int) := Int.natCast_nonneg _
          have z4 : (j : Int) < (x.size : Int) := by omega
          rw [if_pos z2, e4, if_pos z3, if_pos z4, hbj, blank_at, Option.bind_some]
          cases hpv : blk ((bl x).getD j 0) with
          | false => rw [if_neg (by decide), if_pos hol]
          | true =>
            rw [prevB, hpv, Bool.and_true] at how
            have : out = [] := by
              cases out with
              | nil => rfl
              | cons a b => simp at how
            subst this
            rw [if_pos rfl, if_neg (by simp [nums8]), if_pos hol]
theorem spaced_ref {x : ByteArray} (hx : x.size ≤ 10000000000000) : Evn (fun k => glossaryref05_spaced.f k x) (ba (spaced (bl x))) :=
  (spaced_l0 hx (bl x) 0 [] false rfl rfl (by simp)).to fun k => rfl
theorem drop_fnd (c : UInt8) : ∀ r : List UInt8, r.drop (M.find c r) = r.dropWhile (· != c) := by
  intro r
  induction r with
  | nil => rfl
  | cons d r ih =>
    rw [fnd_cons, List.dropWhile_cons]
    by_cases h : d = c
    · simp [h]
    · simp [h, ih]
theorem past_l0 {s : ByteArray} (hs : s.size ≤ 140737488351232) : ∀ (n : Nat) (u : List UInt8), u.length ≤ n → ∀ i : Nat, (bl s).drop i = u → i ≤ s.size →
    Evn (fun k => glossaryref05_past.l0 k s i) ((s.size - (past u).length : Nat) : Int) := by
  intro n
  induction n with
  | zero =>
    intro u hu i h hi
    have : u = [] := List.eq_nil_of_length_eq_zero (by omega)
    subst this
    have := drop_ge h
    rw [past_nil]
    refine (Evn.all (g := fun _ => some (((s.size - ([] : List UInt8).length : Nat)) : Int)) fun k => rfl).at fun k => ?_
    simp only [glossaryref05_past.l0]
    rw [if_neg (by omega), show i = s.size by omega]; simp
  | succ n ih =>
    intro u hu i h hi
    cases u with
    | nil =>
      have := drop_ge h
      rw [past_nil]
      refine (Evn.all (g := fun _ => some (((s.size - ([] : List UInt8).length : Nat)) : Int)) fun k => rfl).at fun k => ?_
      simp only [glossaryref05_past.l0]
      rw [if_neg (by omega), show i = s.size by omega]; simp
    | cons c r =>
      obtain ⟨h1, h2⟩ := drop_lt h
      have hbt := bt_c h
      have hr := drop_nx h
      have e1 := wn i (by omega)
      have z0 : (0 : Int) ≤ (i : Int) := Int.natCast_nonneg _
      have z1 : (i : Int) < (s.size : Int) := by omega
      cases hb : blk c with
      | true =>
        rw [past_blk hb]
        have hi2 := ih r (by simp at hu; omega) (i + 1) hr (by omega)
        refine hi2.at fun k => ?_
        rw [glossaryref05_past.l0]
        rw [if_pos z1, if_pos z0, hbt, blank_at, hb, Option.bind_some, if_pos rfl, e1]
      | false =>
        by_cases h35 : c = 35
        · have hbt35 : (c.toNat : Int) = 35 := by rw [h35]; rfl
          have hpn : past (c :: r) = past (r.dropWhile (· != 10)) := by rw [h35]; exact past_note r
          have hfc : M.find 10 (c :: r) = M.find 10 r + 1 := by rw [fnd_cons, if_neg (by rw [h35]; decide)]
          have hf := find_at_ref hs 10 h hi
          rw [hfc] at hf
          have hle := fnd_le 10 r
          rw [hpn, ← drop_fnd]
          by_cases hn : M.find 10 r = r.length
          · rw [if_pos (by rw [hn]; rfl)] at hf
            rw [hn, List.drop_length, past_nil]
            refine (Evn.bind (h := fun k (t229 : Int) => if t229 < 0 then some (s.size : Int) else glossaryref05_past.l0 k s t229) hf (b := ((s.size - ([] : List UInt8).length : Nat) : Int)) (Evn.all fun k => by rw [if_pos (by decide)]; simp)).at fun k => ?_
            rw [glossaryref05_past.l0]
            rw [if_pos z1, if_pos z0, hbt, blank_at, hb, Option.bind_some, if_neg (by decide), if_pos hbt35]
            rfl
          · rw [if_neg (by rw [List.length_cons]; omega)] at hf
            have hd : (bl s).drop (i + (M.find 10 r + 1)) = r.drop (M.find 10 r) := by
              rw [show i + (M.find 10 r + 1) = (i + 1) + M.find 10 r by omega, ← List.drop_drop, hr]
            have hi2 := ih (r.drop (M.find 10 r)) (by simp at hu ⊢; omega) (i + (M.find 10 r + 1)) hd (by omega)
            refine (Evn.bind (h := fun k (t229 : Int) => if t229 < 0 then some (s.size : Int) else glossaryref05_past.l0 k s t229) hf (b := ((s.size - (past (r.drop (M.find 10 r))).length : Nat) : Int)) (hi2.to fun k => ?_)).at fun k => ?_
            · show (if ((i + (M.find 10 r + 1) : Nat) : Int) < 0 then _ else _) = _
              rw [if_neg (Int.not_lt.mpr (Int.natCast_nonneg _))]
            · rw [glossaryref05_past.l0]
              rw [if_pos z1, if_pos z0, hbt, blank_at, hb, Option.bind_some, if_neg (by decide), if_pos hbt35]
              rfl
        · have h35' : ¬ (c.toNat : Int) = 35 := fun e => h35 (UInt8.toNat_inj.1 (by show c.toNat = 35; omega))
          rw [past_cons hb h35]
          refine (Evn.all (g := fun _ => some (i : Int)) fun k => by rw [List.length_cons, show s.size - (r.length + 1) = i by omega]).at fun k => ?_
          rw [glossaryref05_past.l0]
          rw [if_pos z1, if_pos z0, hbt, blank_at, hb, Option.bind_some, if_neg (by decide), if_neg h35']
theorem past_ref {s : ByteArray} (hs : s.size ≤ 140737488351232) {u : List UInt8} {i : Nat} (h : (bl s).drop i = u) (hi : i ≤ s.size) : Evn (fun k => glossaryref05_past.f k s i) ((s.size - (past u).length : Nat) : Int) :=
  (past_l0 hs _ u (Nat.le_refl _) i h hi).to fun k => rfl
theorem nat_ten {n : Nat} : ((n : Int) = 10) ↔ n = 10 := by omega
theorem pt_ten {t : List UInt8} (h : t ≠ []) : (((pt t : Nat) : Int) = 10) ↔ dc t = 10 := by
  rw [nat_ten]
  cases hi : ill t with
  | true =>
    have e2 : dc t = 65533 ∧ dw t = 1 := by simpa [ill] using hi
    have e3 : pt t = 1114112 + b0 t := by unfold pt; rw [if_pos hi]
    have e4 : 10 < pt t := by rw [e3]; exact Nat.lt_of_lt_of_le (by decide) (Nat.le_add_right 1114112 _)
    have e5 : 10 < dc t := by rw [e2.1]; decide
    exact ⟨fun e => absurd e (Nat.ne_of_gt e4), fun e => absurd e (Nat.ne_of_gt e5)⟩
  | false => rw [pt_of_ok hi]
theorem place_l0 {s : ByteArray} (hs : s.size ≤ 140737488351232) {u : List UInt8} {at_ : Nat} (hu : (bl s).drop at_ = u) (ha : at_ ≤ s.size) : ∀ (q : List (List UInt8)) (i ln cl : Nat), i ≤ s.size → sfx ((bl s).drop i) = q ++ sfx u → ln ≤ i + 1 → cl ≤ i + 1 →
    Evn (fun k => glossaryref05_Place.l0 k s at_ ln cl i) (((plc (ln, cl) q).1 : Int), ((plc (ln, cl) q).2 : Int)) := by
  intro q
  induction q with
  | nil =>
    intro i ln cl hi h h1 h2
    have hia : i = at_ := by
      rw [List.nil_append] at h
      have hdr : (bl s).drop i = u := by
        by_cases hn : (bl s).drop i = []
        · rw [hn, sfx_nil] at h
          by_cases hun : u = []
          · rw [hn, hun]
          · rw [sfx_cons hun] at h; simp at h
        · rw [sfx_cons hn] at h
          by_cases hun : u = []
          · rw [hun, sfx_nil] at h; simp at h
          · rw [sfx_cons hun] at h
            injection h
      have e := congrArg List.length (hdr.trans hu.symm)
      rw [List.length_drop, List.length_drop, bl_len] at e
      omega
    subst hia
    refine (Evn.all (g := fun _ => some ((ln : Int), (cl : Int))) fun k => rfl).at fun k => ?_
    rw [glossaryref05_Place.l0]
    rw [if_neg (by omega)]
  | cons t q ih =>
    intro i ln cl hi h h1 h2
    have hn : (bl s).drop i ≠ [] := by
      intro e
      rw [e, sfx_nil] at h; simp at h
    rw [sfx_cons hn] at h
    simp only [List.cons_append, List.cons.injEq] at h
    obtain ⟨ht, hq⟩ := h
    rw [ht] at hq
    have htn : t ≠ [] := by rw [← ht]; exact hn
    have hdl := dw_len htn
    have hdp := dw_pos htn
    have htl := congrArg List.length ht
    rw [List.length_drop, bl_len] at htl
    have hch : Ch (t.drop (dw t)) u := ⟨q, hq⟩
    have hcl := hch.drop.1
    have hul := congrArg List.length hu
    rw [List.length_drop, bl_len] at hul
    rw [List.length_drop] at hcl
    have hdr : (bl s).drop (i + dw t) = t.drop (dw t) := by rw [← List.drop_drop, ht]
    have hlt : (i : Int) < (at_ : Int) := by omega
    have b1 : (ln : Int) + 1 ≤ 9223372036854775807 := by omega
    have b2 : (cl : Int) + 1 ≤ 9223372036854775807 := by omega
    have b3 : (i : Int) + ((dw t : Nat) : Int) ≤ 9223372036854775807 := by omega
    have b4 : -9223372036854775808 ≤ (i : Int) + ((dw t : Nat) : Int) := by omega
    have b5 : i + dw t ≤ s.size := by omega
    have b6 : ln + 1 ≤ i + dw t + 1 := by omega
    have b7 : cl + 1 ≤ i + dw t + 1 := by omega
    have b8 : 1 ≤ i + dw t + 1 := by omega
    have b9 : ln ≤ i + dw t + 1 := by omega
    have ew : wrap64 ((i : Int) + ((dw t : Nat) : Int)) = ((i + dw t : Nat) : Int) := (w64 b4 b3).trans (Int.natCast_add _ _).symm
    have eln := wn ln b1
    have ecl := wn cl b2
    rw [plc_cons]
    by_cases h10 : dc t = 10
    · have e : pstep (ln, cl) t = (ln + 1, 1) := by unfold pstep; rw [if_pos h10]
      rw [e]
      have hi2 := ih (i + dw t) (ln + 1) 1 b5 (by rw [hdr]; exact hq) b6 b8
      obtain ⟨K, hK⟩ := hi2
      refine ⟨K + 13, fun k hk => ?_⟩
      obtain ⟨k, rfl⟩ : ∃ j, k = (j + 12) + 1 := ⟨k - 13, by clear ew eln ecl; omega⟩
      have hK' := hK (k + 12) (by clear ew eln ecl; omega)
      show glossaryref05_Place.l0 ((k + 12) + 1) s at_ ln cl i = _
      rw [glossaryref05_Place.l0]
      rw [if_pos hlt, next_at hs ht htn k, Option.bind_some]
      simp only
      rw [if_pos ((pt_ten htn).2 h10), ew, eln]
      exact hK'
    · have e : pstep (ln, cl) t = (ln, cl + 1) := by unfold pstep; rw [if_neg h10]
      rw [e]
      have hi2 := ih (i + dw t) ln (cl + 1) b5 (by rw [hdr]; exact hq) b9 b7
      obtain ⟨K, hK⟩ := hi2
      refine ⟨K + 13, fun k hk => ?_⟩
      obtain ⟨k, rfl⟩ : ∃ j, k = (j + 12) + 1 := ⟨k - 13, by clear ew eln ecl; omega⟩
      have hK' := hK (k + 12) (by clear ew eln ecl; omega)
      show glossaryref05_Place.l0 ((k + 12) + 1) s at_ ln cl i = _
      rw [glossaryref05_Place.l0]
      rw [if_pos hlt, next_at hs ht htn k, Option.bind_some]
      simp only
      rw [if_neg (fun e => h10 ((pt_ten htn).1 e)), ew, ecl]
      exact hK'
theorem place_ref {s : ByteArray} (hs : s.size ≤ 140737488351232) {u : List UInt8} {p : Nat} (hu : (bl s).drop p = u) (hp : p ≤ s.size) (hc : Ch (bl s) u) : Evn (fun k => glossaryref05_Place.f k s p) (((place (bl s) u).1 : Int), ((place (bl s) u).2 : Int)) := by
  obtain ⟨q, hq, hpl⟩ := hc.plc (1, 1)
  have := place_l0 hs hu hp q 0 1 1 (Nat.zero_le _) (by rw [List.drop_zero]; exact hq) (by omega) (by omega)
  rw [hpl] at this
  exact this.to fun k => rfl
theorem linesN_cons (c : UInt8) (r : List UInt8) : linesN (c :: r) = (if c = 10 ∨ r = [] then 1 else 0) + linesN r := by
  unfold linesN
  cases r with
  | nil => by_cases h : c = 10 <;> simp [h]
  | cons d r =>
    rw [List.count_cons, List.getLast?_cons_cons]
    by_cases h : c = 10
    · simp [h]; omega
    · simp [h]
theorem lines_l0 {s : ByteArray} (hs : s.size ≤ 140737488351232) : ∀ (u : List UInt8) (i n : Nat), (bl s).drop i = u → i ≤ s.size → n ≤ i → Evn (fun k => glossaryref05_Lines.l0 k s n i) ((n + linesN u : Nat) : Int) := by
  intro u
  induction u with
  | nil =>
    intro i n h hi hn
    have := drop_ge h
    refine (Evn.all (g := fun _ => some (n : Int)) fun k => rfl).at fun k => ?_
    simp only [glossaryref05_Lines.l0]
    rw [if_neg (by omega)]
  | cons c r ih =>
    intro i n h hi hn
    obtain ⟨h1, h2⟩ := drop_lt h
    have hbt := bt_c h
    have hr := drop_nx h
    have e1 := wn i (by omega)
    have e2 := wn n (by omega)
    have z0 : (0 : Int) ≤ (i : Int) := Int.natCast_nonneg _
    have z1 : (i : Int) < (s.size : Int) := by omega
    rw [linesN_cons]
    by_cases h10 : c = 10
    · have hc : (c.toNat : Int) = 10 := by rw [h10]; rfl
      rw [if_pos (.inl h10)]
      have hi2 := ih (i + 1) (n + 1) hr (by omega) (by omega)
      rw [Nat.add_assoc] at hi2
      refine hi2.at fun k => ?_
      rw [glossaryref05_Lines.l0]
      rw [if_pos z1, if_pos z0, hbt, if_pos hc, e1, e2]
    · have hc : ¬ (c.toNat : Int) = 10 := fun e => h10 (UInt8.toNat_inj.1 (by show c.toNat = 10; omega))
      by_cases hrn : r = []
      · rw [if_pos (.inr hrn)]
        have z2 : ((i + 1 : Nat) : Int) = (s.size : Int) := by rw [hrn] at h2; simp at h2; omega
        have hi2 := ih (i + 1) (n + 1) hr (by omega) (by omega)
        rw [Nat.add_assoc] at hi2
        refine hi2.at fun k => ?_
        rw [glossaryref05_Lines.l0]
        rw [if_pos z1, if_pos z0, hbt, if_neg hc, e1, if_pos z2, e2]
      · rw [if_neg (by rintro (h | h); exact h10 h; exact hrn h), Nat.zero_add]
        have z2 : ¬ ((i + 1 : Nat) : Int) = (s.size : Int) := by have := List.length_pos_iff.2 hrn; omega
        have hi2 := ih (i + 1) n hr (by omega) (by omega)
        refine hi2.at fun k => ?_
        rw [glossaryref05_Lines.l0]
        rw [if_pos z1, if_pos z0, hbt, if_neg hc, e1, if_neg z2]
theorem lines_ref {s : ByteArray} (hs : s.size ≤ 140737488351232) : Evn (fun k => glossaryref05_Lines.f k s) ((linesN (bl s) : Nat) : Int) := by
  have := lines_l0 hs (bl s) 0 0 rfl (Nat.zero_le _) (Nat.le_refl _)
  rw [Nat.zero_add] at this
  exact this.to fun k => rfl
end Go.Proofs.YtekoeobfddfgpaaGreatDoor.C
set_option linter.unusedVariables false
set_option linter.unusedSimpArgs false
namespace Go.Proofs.YtekoeobfddfgpaaGreatDoor.C
open Go Go.RowKit Go.Proofs.YtekoeobfddfgpaaGreatDoor.M Go.Proofs.YtekoeobfddfgpaaGreatDoor.PAll Go.Proofs.YtekoeobfddfgpaaGreatDoorW.PrintWords
def tokS (l : List UInt8) (y : Nat × List UInt8 × List UInt8) : S38 := ⟨(y.1 : Int), ba y.2.1, ((place l y.2.2).1 : Int), ((place l y.2.2).2 : Int), ((l.length - y.2.2.length : Nat) : Int)⟩
def OneR (l u : List UInt8) (p : Nat) (res : Int × ByteArray × Int × Int × Int × Int × Int × Int) : One → Prop
  | .tok kd x w => ∃ a, res = ((kd : Int), ba x, ((place l u).1 : Int), ((place l u).2 : Int), (p : Int), ((p + w : Nat) : Int), 0, a)
  | .bad no j => ∃ (b : Int) (c : ByteArray × Int × Int × Int × Int), res = (b, c.1, c.2.1, c.2.2.1, c.2.2.2.1, c.2.2.2.2, (no : Int), ((p + j : Nat) : Int)) ∧ no ≠ 0
theorem one_ref {s : ByteArray} (hs : s.size ≤ 1048576) {u : List UInt8} {p : Nat} (h : (bl s).drop p = u) (hp : p ≤ s.size) (hc : Ch (bl s) u) (hu : ∀ c r, u = c :: r → blk c = false ∧ c ≠ 35) :
    ∃ res, Evn (fun k => glossaryref05_One.f k s p) res ∧ OneR (bl s) u p res (oneM u) := by
  have hs' : s.size ≤ 140737488351232 := by omega
  have hpl := place_ref hs' h hp hc
  obtain ⟨L, hL⟩ : ∃ L, ((place (bl s) u).1 : Int) = L := ⟨_, rfl⟩
  obtain ⟨C, hC⟩ : ∃ C, ((place (bl s) u).2 : Int) = C := ⟨_, rfl⟩
  rw [hL, hC] at hpl
  cases u with
  | nil =>
    have h1 := drop_ge h
    have hps : p = s.size := by omega
    refine ⟨(0, ⟨#[]⟩, L, C, p, p, 0, 0), ?_, 0, by rw [hL, hC]; rfl⟩
    refine (Evn.bind (h := fun k (bt219 : Int × Int) => some ((0 : Int), (⟨#[]⟩ : ByteArray), bt219.1, bt219.2, (p : Int), (p : Int), (0 : Int), (0 : Int))) hpl (b := (0, ⟨#[]⟩, L, C, p, p, 0, 0)) (Evn.all fun k => rfl)).to fun k => ?_
    show glossaryref05_One.f k s p = _
    unfold glossaryref05_One.f
    congr 1
    funext bt
    rw [if_pos (by rw [hps])]
  | cons c r =>
    obtain ⟨h1, h2⟩ := drop_lt h
    have hbt := bt_c h
    have hr := drop_nx h
    have z0 : (0 : Int) ≤ (p : Int) := Int.natCast_nonneg _
    have z1 : (p : Int) < (s.size : Int) := by omega
    have zn : ¬ (p : Int) = (s.size : Int) := by omega
    have e1 := wn p (by omega)
    have start : ∀ (rest : Nat → Int × Int → Option (Int × ByteArray × Int × Int × Int × Int × Int × Int)) (res : Int × ByteArray × Int × Int × Int × Int × Int × Int), Evn (fun k => rest k (L, C)) res →
        (∀ k bt, (if (c.toNat : Int) = 93 then (some ((0 : Int), (⟨#[]⟩ : ByteArray), bt.1, bt.2, (p : Int), (p : Int), (25 : Int), (p : Int))) else (if (c.toNat : Int) = 42 then (some (0, (⟨#[]⟩ : ByteArray), bt.1, bt.2, (p : Int), (p : Int), 4, (p : Int))) else (if (c.toNat : Int) = 91 then ((glossaryref05_find.f k s p 93).bind fun t222 => (if t222 < 0 then (some (0, (⟨#[]⟩ : ByteArray), bt.1, bt.2, (p : Int), (p : Int), 25, (p : Int))) else (if 0 ≤ (wrap64 ((p : Int) + 1)) then (if (wrap64 ((p : Int) + 1)) ≤ t222 then (if t222 ≤ (s.size : Int) then ((glossaryref05_spaced.f k (s.extract ((wrap64 ((p : Int) + 1)) : Int).toNat (t222 : Int).toNat)).bind fun t223 => (some (3, t223, bt.1, bt.2, (p : Int), wrap64 (t222 + 1), 0, 0))) else (none)) else (none)) else (none)))) else ((glossaryref05_sign.f k s p).bind fun t224 => (if t224.toList = ([] : List UInt8) then ((glossaryref05_text.f k s p).bind fun bt225 => (some (1, bt225.1, bt.1, bt.2, (p : Int), bt225.2.1, bt225.2.2, bt225.2.1))) else (some (2, t224, bt.1, bt.2, (p : Int), wrap64 ((p : Int) + (t224.size : Int)), 0, 0))))))) = rest k bt) → Evn (fun k => glossaryref05_One.f k s p) res := by
      intro rest res hrest heq
      refine (Evn.bind (h := rest) hpl hrest).to fun k => ?_
      show glossaryref05_One.f k s p = _
      unfold glossaryref05_One.f
      congr 1
      funext bt
      rw [if_neg zn, if_pos z0, if_pos z1, hbt]
      exact heq k bt
    have hne : ∀ d : UInt8, c ≠ d → ¬ (c.toNat : Int) = (d.toNat : Int) := fun d hd e => hd (u8i_eq.1 e)
    by_cases h93 : c = 93
    · subst h93
      refine ⟨(0, ⟨#[]⟩, L, C, p, p, 25, p), start (fun k bt => some (0, ⟨#[]⟩, bt.1, bt.2, p, p, 25, p)) _ (Evn.all fun k => rfl) (fun k bt => by rw [if_pos (by decide)]), ?_⟩
      exact ⟨0, (⟨#[]⟩, L, C, p, p), rfl, by decide⟩
    by_cases h42 : c = 42
    · subst h42
      refine ⟨(0, ⟨#[]⟩, L, C, p, p, 4, p), start (fun k bt => some (0, ⟨#[]⟩, bt.1, bt.2, p, p, 4, p)) _ (Evn.all fun k => rfl) (fun k bt => by rw [if_neg (by decide), if_pos (by decide)]), ?_⟩
      exact ⟨0, (⟨#[]⟩, L, C, p, p), rfl, by decide⟩
    have n93 : ¬ (c.toNat : Int) = 93 := hne 93 h93
    have n42 : ¬ (c.toNat : Int) = 42 := hne 42 h42
    by_cases h91 : c = 91
    · have c91 : (c.toNat : Int) = 91 := by rw [h91]; rfl
      have hf := find_at_ref hs' 93 h hp
      have hfc : M.find 93 (c :: r) = M.find 93 r + 1 := by rw [fnd_cons, if_neg (by rw [h91]; decide)]
      have hle := fnd_le 93 r
      rw [hfc] at hf
      have ho : oneM (c :: r) = if M.find 93 r = r.length then .bad 25 0 else .tok 3 (spaced (r.take (M.find 93 r))) (M.find 93 r + 2) := by simp only [oneM]; rw [if_neg h93, if_neg h42, if_pos h91]
      rw [ho]
      by_cases hnf : M.find 93 r = r.length
      · rw [if_pos (by rw [hnf]; rfl)] at hf
        rw [if_pos hnf]
        refine ⟨(0, ⟨#[]⟩, L, C, p, p, 25, p), start (fun k bt => (glossaryref05_find.f k s p 93).bind fun t222 => (if t222 < 0 then (some (0, (⟨#[]⟩ : ByteArray), bt.1, bt.2, (p : Int), (p : Int), 25, (p : Int))) else (if 0 ≤ (wrap64 ((p : Int) + 1)) then (if (wrap64 ((p : Int) + 1)) ≤ t222 then (if t222 ≤ (s.size : Int) then ((glossaryref05_spaced.f k (s.extract ((wrap64 ((p : Int) + 1)) : Int).toNat (t222 : Int).toNat)).bind fun t223 => (some (3, t223, bt.1, bt.2, (p : Int), wrap64 (t222 + 1), 0, 0))) else (none)) else (none)) else (none)))) _ ?_ (fun k bt => by rw [if_neg n93, if_neg n42, if_pos c91]), ?_⟩
        · exact Evn.bind hf (Evn.all fun k => by rw [if_pos (by decide)])
        · exact ⟨0, (⟨#[]⟩, L, C, p, p), rfl, by decide⟩
      · rw [if_neg (by rw [List.length_cons]; omega)] at hf
        rw [if_neg hnf]
        obtain ⟨x, hx⟩ : ∃ x, s.extract (p + 1) (p + (M.find 93 r + 1)) = x := ⟨_, rfl⟩
        have hbx : bl x = r.take (M.find 93 r) := by
          rw [← hx, ← hr]
          have : bl (s.extract (p + 1) (p + (M.find 93 ((bl s).drop (p + 1)) + 1))) = ((bl s).drop (p + 1)).take (p + (M.find 93 ((bl s).drop (p + 1)) + 1) - (p + 1)) := by simp [bl, ByteArray.data_extract, Array.toList_extract, List.extract]
          rw [this, show p + (M.find 93 ((bl s).drop (p + 1)) + 1) - (p + 1) = M.find 93 ((bl s).drop (p + 1)) by omega]
        have hxs : x.size ≤ 10000000000000 := by rw [← bl_len, hbx, List.length_take]; omega
        have hsp := spaced_ref hxs
        rw [hbx] at hsp
        have z2 : ¬ ((p + (M.find 93 r + 1) : Nat) : Int) < 0 := Int.not_lt.mpr (Int.natCast_nonneg _)
        have z3 : (0 : Int) ≤ ((p + 1 : Nat) : Int) := Int.natCast_nonneg _
        have z4 : ((p + 1 : Nat) : Int) ≤ ((p + (M.find 93 r + 1) : Nat) : Int) := by omega
        have z5 : ((p + (M.find 93 r + 1) : Nat) : Int) ≤ (s.size : Int) := by omega
        have e2 := wn (p + (M.find 93 r + 1)) (by clear e1; omega)
        refine ⟨(3, ba (spaced (r.take (M.find 93 r))), L, C, p, ((p + (M.find 93 r + 2) : Nat) : Int), 0, 0), start (fun k bt => (glossaryref05_find.f k s p 93).bind fun t222 => (if t222 < 0 then (some (0, (⟨#[]⟩ : ByteArray), bt.1, bt.2, (p : Int), (p : Int), 25, (p : Int))) else (if 0 ≤ (wrap64 ((p : Int) + 1)) then (if (wrap64 ((p : Int) + 1)) ≤ t222 then (if t222 ≤ (s.size : Int) then ((glossaryref05_spaced.f k (s.extract ((wrap64 ((p : Int) + 1)) : Int).toNat (t222 : Int).toNat)).bind fun t223 => (some (3, t223, bt.1, bt.2, (p : Int), wrap64 (t222 + 1), 0, 0))) else (none)) else (none)) else (none)))) _ ?_ (fun k bt => by rw [if_neg n93, if_neg n42, if_pos c91]), ?_⟩
        · refine Evn.bind hf ((Evn.bind (h := fun k (t223 : ByteArray) => some ((3 : Int), t223, L, C, (p : Int), wrap64 (((p + (M.find 93 r + 1) : Nat) : Int) + 1), (0 : Int), (0 : Int))) hsp (b := (3, ba (spaced (r.take (M.find 93 r))), L, C, (p : Int), ((p + (M.find 93 r + 2) : Nat) : Int), 0, 0)) (Evn.all fun k => by rw [e2]; rfl)).to fun k => ?_)
          show (if ((p + (M.find 93 r + 1) : Nat) : Int) < 0 then _ else _) = _
          rw [if_neg z2, e1, if_pos z3, if_pos z4, if_pos z5, Int.toNat_natCast, Int.toNat_natCast, hx]
        · exact ⟨0, by rw [hL, hC]; rfl⟩
    have n91 : ¬ (c.toNat : Int) = 91 := hne 91 h91
    have hsg := sign_ref hs' h
    have startS : ∀ res, Evn (fun k => (glossaryref05_sign.f k s p).bind fun t224 => (if t224.toList = ([] : List UInt8) then ((glossaryref05_text.f k s p).bind fun bt225 => (some ((1 : Int), bt225.1, L, C, (p : Int), bt225.2.1, bt225.2.2, bt225.2.1))) else (some (2, t224, L, C, (p : Int), wrap64 ((p : Int) + (t224.size : Int)), 0, 0)))) res → Evn (fun k => glossaryref05_One.f k s p) res := fun res hres => start (fun k bt => (glossaryref05_sign.f k s p).bind fun t224 => (if t224.toList = ([] : List UInt8) then ((glossaryref05_text.f k s p).bind fun bt225 => (some ((1 : Int), bt225.1, bt.1, bt.2, (p : Int), bt225.2.1, bt225.2.2, bt225.2.1))) else (some (2, t224, bt.1, bt.2, (p : Int), wrap64 ((p : Int) + (t224.size : Int)), 0, 0)))) res hres (fun k bt => by rw [if_neg n93, if_neg n42, if_neg n91])
    by_cases h5 : sg5 c
    · have h5' : c = 38 ∨ c = 60 ∨ c = 61 ∨ c = 47 ∨ c = 45 := h5
      rw [if_pos h5] at hsg
      have ho : oneM (c :: r) = .tok 2 ((c :: r).take (signW (c :: r))) (signW (c :: r)) := by simp only [oneM]; rw [if_neg h93, if_neg h42, if_neg h91, if_pos h5']
      rw [ho]
      have hw := signW_w c r
      obtain ⟨W, hW⟩ : ∃ W, signW (c :: r) = W := ⟨_, rfl⟩
      rw [hW] at hw hsg ⊢
      obtain ⟨X, hX⟩ : ∃ X, (c :: r).take W = X := ⟨_, rfl⟩
      have hXl : X.length = W := by rw [← hX, List.length_take]; omega
      rw [hX] at hsg ⊢
      have hXn : ¬ (ba X).toList = [] := by
        rw [toList_bl', bl_ba]
        intro e
        rw [e] at hXl; simp at hXl; omega
      rw [List.length_cons] at hw
      have e2 : wrap64 ((p : Int) + ((ba X).size : Int)) = ((p + W : Nat) : Int) := by
        rw [ba_size, hXl, w64 (by clear e1; omega) (by clear e1; omega)]; clear e1; omega
      refine ⟨(2, ba X, L, C, p, ((p + W : Nat) : Int), 0, 0), startS _ (Evn.bind hsg (Evn.all fun k => by rw [if_neg hXn, e2])), 0, by rw [hL, hC]; rfl⟩
    · have h5' : ¬ (c = 38 ∨ c = 60 ∨ c = 61 ∨ c = 47 ∨ c = 45) := h5
      rw [if_neg h5] at hsg
      have ho : oneM (c :: r) = if (textM (c :: r)).2.2 ≠ 0 then .bad (textM (c :: r)).2.2 (textM (c :: r)).2.1 else .tok 1 (textM (c :: r)).1 (textM (c :: r)).2.1 := by simp only [oneM]; rw [if_neg h93, if_neg h42, if_neg h91, if_neg h5']
      rw [ho]
      have htx := text_ref hs' h hp
      have hemp : (ba ([] : List UInt8)).toList = [] := by rw [toList_bl', bl_ba]
      have go : ∀ res, Evn (fun k => (glossaryref05_text.f k s p).bind fun bt225 => (some ((1 : Int), bt225.1, L, C, (p : Int), bt225.2.1, bt225.2.2, bt225.2.1))) res → Evn (fun k => glossaryref05_One.f k s p) res := fun res hres => startS res (Evn.bind hsg (hres.to fun k => by rw [if_pos hemp]))
      by_cases h0 : (textM (c :: r)).2.2 = 0
      · rw [if_neg (by rw [h0]; decide)]
        have hB : textB [] (c :: r) p = (ba (textM (c :: r)).1, ((p + (textM (c :: r)).2.1 : Nat) : Int), 0) := by unfold textB; rw [if_pos h0, List.nil_append]
        rw [hB] at htx
        exact ⟨_, go _ (Evn.bind htx (Evn.all fun k => rfl)), _, by rw [hL, hC]; rfl⟩
      · rw [if_pos h0]
        have hB : textB [] (c :: r) p = (⟨#[]⟩, ((p + (textM (c :: r)).2.1 : Nat) : Int), (((textM (c :: r)).2.2 : Nat) : Int)) := by unfold textB; rw [if_neg h0]
        rw [hB] at htx
        exact ⟨_, go _ (Evn.bind htx (Evn.all fun k => rfl)), 1, (⟨#[]⟩, L, C, p, ((p + (textM (c :: r)).2.1 : Nat) : Int)), rfl, h0⟩
def ScanB (l t : List UInt8) (acc : List S38) : List S38 × Int × Int × Int := match (scanM t).2 with
  | none => (acc ++ (scanM t).1.map (tokS l), 0, 0, 0)
  | some x => ([], (x.1 : Int), ((place l x.2).1 : Int), ((place l x.2).2 : Int))
theorem ScanB_none {l t : List UInt8} {acc : List S38} (h : (scanM t).2 = none) : ScanB l t acc = (acc ++ (scanM t).1.map (tokS l), 0, 0, 0) := by unfold ScanB; rw [h]
theorem ScanB_some {l t : List UInt8} {acc : List S38} {x : Nat × List UInt8} (h : (scanM t).2 = some x) : ScanB l t acc = ([], (x.1 : Int), ((place l x.2).1 : Int), ((place l x.2).2 : Int)) := by unfold ScanB; rw [h]
theorem ScanB_tok {l t t' : List UInt8} {acc : List S38} {y : Nat × List UInt8 × List UInt8} (h : scanM t = (y :: (scanM t').1, (scanM t').2)) : ScanB l t acc = ScanB l t' (acc ++ [tokS l y]) := by
  cases hh : (scanM t').2 with
  | none => rw [ScanB_none (by rw [h]; exact hh), ScanB_none hh, h]; simp
  | some x => rw [ScanB_some (x := x) (by rw [h]; exact hh), ScanB_some hh]
theorem oneM_kind {c : UInt8} {r : List UInt8} {kd : Nat} {x : List UInt8} {w : Nat} (h : oneM (c :: r) = .tok kd x w) : kd ≠ 0 := by
  simp only [oneM] at h
  split at h
  · cases h
  split at h
  · cases h
  split at h
  · split at h
    · cases h
    · injection h with h; omega
  split at h
  · injection h with h; omega
  · split at h
    · cases h
    · injection h with h; omega
theorem scan_l0 {s : ByteArray} (hs : s.size ≤ 1048576) : ∀ (n : Nat) (t : List UInt8), t.length ≤ n → ∀ (p : Nat) (acc : List S38), (bl s).drop p = t → p ≤ s.size → Ch (bl s) t → acc.length ≤ p →
    Evn (fun k => glossaryref05_Scan.l0 k s acc p) (ScanB (bl s) t acc) := by
  have hs' : s.size ≤ 140737488351232 := by omega
  intro n
  induction n with
  | zero =>
    intro t ht p acc h hp hc ha
    have : t = [] := List.eq_nil_of_length_eq_zero (by omega)
    subst this
    have h1 := drop_ge h
    have hpa := past_ref hs' h hp
    rw [past_nil] at hpa
    have hd : (bl s).drop s.size = [] := List.drop_of_length_le (by rw [bl_len]; exact Nat.le_refl _)
    obtain ⟨res, hone, hR⟩ := one_ref hs hd (Nat.le_refl _) hc (fun c r e => by cases e)
    obtain ⟨a, rfl⟩ : OneR (bl s) [] s.size res (.tok 0 [] 0) := hR
    rw [ScanB_none (by rw [scanM_end past_nil]), scanM_end past_nil]
    refine (Evn.bind (h := fun k (t231 : Int) => (glossaryref05_One.f k s t231).bind fun bt232 => (if bt232.2.2.2.2.2.2.1 = 0 then (if acc.length < 2932031007402 then ((some (acc ++ [(⟨bt232.1, bt232.2.1, bt232.2.2.1, bt232.2.2.2.1, bt232.2.2.2.2.1⟩ : S38)] : List (S38))).bind fun y241 => (if bt232.1 = 0 then (some (y241, 0, 0, 0)) else (glossaryref05_Scan.l0 k s y241 bt232.2.2.2.2.2.1))) else (none)) else ((glossaryref05_Place.f k s bt232.2.2.2.2.2.2.2).bind fun bt244 => (some (([] : List (S38)), bt232.2.2.2.2.2.2.1, bt244.1, bt244.2))))) hpa (b := (acc ++ [tokS (bl s) (0, [], [])], 0, 0, 0)) (Evn.bind hone (Evn.all fun k => ?_))).at fun k => ?_
    · rw [if_pos rfl, if_pos (by omega), Option.bind_some]
      show (if ((0 : Nat) : Int) = 0 then _ else _) = _
      rw [if_pos (show ((0 : Nat) : Int) = 0 from rfl)]
      unfold tokS
      rw [bl_len]; rfl
    · rw [glossaryref05_Scan.l0]
  | succ n ih =>
    intro t ht p acc h hp hc ha
    have hpa := past_ref hs' h hp
    have hpc := past_ch t
    have hpd := hpc.drop
    have htl := congrArg List.length h
    rw [List.length_drop, bl_len] at htl
    obtain ⟨u, hu⟩ : ∃ u, past t = u := ⟨_, rfl⟩
    rw [hu] at hpa hpc hpd
    obtain ⟨pu, hpu⟩ : ∃ pu, s.size - u.length = pu := ⟨_, rfl⟩
    have hul : u.length + pu = s.size := by omega
    have hdu : (bl s).drop pu = u := by
      have e2 : pu = p + (t.length - u.length) := by have := hpd.1; omega
      rw [e2, ← List.drop_drop, h]
      exact hpd.2.symm
    have hcu : Ch (bl s) u := hc.trans hpc
    rw [hpu] at hpa
    have hhead : ∀ c r, u = c :: r → blk c = false ∧ c ≠ 35 := fun c r e => past_head t c r (by rw [hu, e])
    obtain ⟨res, hone, hR⟩ := one_ref hs hdu (by omega) hcu hhead
    have go : ∀ b, Evn (fun k => (if res.2.2.2.2.2.2.1 = 0 then (if acc.length < 2932031007402 then ((some (acc ++ [(⟨res.1, res.2.1, res.2.2.1, res.2.2.2.1, res.2.2.2.2.1⟩ : S38)] : List (S38))).bind fun y241 => (if res.1 = 0 then (some (y241, 0, 0, 0)) else (glossaryref05_Scan.l0 k s y241 res.2.2.2.2.2.1))) else (none)) else ((glossaryref05_Place.f k s res.2.2.2.2.2.2.2).bind fun bt244 => (some (([] : List (S38)), res.2.2.2.2.2.2.1, bt244.1, bt244.2))))) b → Evn (fun k => glossaryref05_Scan.l0 k s acc p) b := by
      intro b hb
      refine (Evn.bind (h := fun k (t231 : Int) => (glossaryref05_One.f k s t231).bind fun bt232 => (if bt232.2.2.2.2.2.2.1 = 0 then (if acc.length < 2932031007402 then ((some (acc ++ [(⟨bt232.1, bt232.2.1, bt232.2.2.1, bt232.2.2.2.1, bt232.2.2.2.2.1⟩ : S38)] : List (S38))).bind fun y241 => (if bt232.1 = 0 then (some (y241, 0, 0, 0)) else (glossaryref05_Scan.l0 k s y241 bt232.2.2.2.2.2.1))) else (none)) else ((glossaryref05_Place.f k s bt232.2.2.2.2.2.2.2).bind fun bt244 => (some (([] : List (S38)), bt232.2.2.2.2.2.2.1, bt244.1, bt244.2))))) hpa (b := b) (Evn.bind hone hb)).at fun k => ?_
      rw [glossaryref05_Scan.l0]
    refine go _ ?_
    clear go hone hpa
    cases ho : oneM u with
    | bad no j =>
      rw [ho] at hR
      obtain ⟨b, c, rfl, hno⟩ := hR
      have hne : past t ≠ [] := by
        rw [hu]; intro e; rw [e] at ho; simp [oneM] at ho
      rw [ScanB_some (x := (no, u.drop j)) (by rw [scanM_bad hne (by rw [hu]; exact ho), hu])]
      obtain ⟨hch, hjl⟩ := oneM_ch.2 no j ho
      have hpl := place_ref hs' (u := u.drop j) (p := pu + j) (by rw [← List.drop_drop, hdu]) (by omega) (hcu.trans hch)
      refine (Evn.bind (h := fun k (bt244 : Int × Int) => some (([] : List (S38)), (no : Int), bt244.1, bt244.2)) hpl (b := ([], (no : Int), ((place (bl s) (u.drop j)).1 : Int), ((place (bl s) (u.drop j)).2 : Int))) (Evn.all fun k => rfl)).to fun k => ?_
      show (if (no : Int) = 0 then _ else _) = _
      rw [if_neg (by omega)]
    | tok kd x w =>
      rw [ho] at hR
      obtain ⟨a, rfl⟩ := hR
      have htok : (⟨(kd : Int), ba x, ((place (bl s) u).1 : Int), ((place (bl s) u).2 : Int), (pu : Int)⟩ : S38) = tokS (bl s) (kd, x, u) := by
        unfold tokS
        rw [bl_len, show s.size - u.length = pu by omega]
      by_cases hun : u = []
      · subst hun
        have ho' : oneM [] = .tok 0 [] 0 := rfl
        rw [ho'] at ho
        injection ho with e1 e2 e3
        subst e1; subst e2; subst e3
        rw [ScanB_none (by rw [scanM_end hu]), scanM_end hu]
        refine Evn.all fun k => ?_
        show (if (0 : Int) = 0 then (if acc.length < 2932031007402 then ((some (acc ++ [_])).bind _) else none) else _) = _
        rw [if_pos rfl, if_pos (by omega), Option.bind_some]
        show (if ((0 : Nat) : Int) = 0 then _ else _) = _
        rw [if_pos (show ((0 : Nat) : Int) = 0 from rfl)]
        show some (acc ++ [_], _) = some (acc ++ [tokS (bl s) (0, [], [])], _)
        rw [← htok]
      · have hne : past t ≠ [] := by rw [hu]; exact hun
        have hkd : kd ≠ 0 := by
          cases u with
          | nil => exact absurd rfl hun
          | cons c r => exact oneM_kind ho
        have hw := oneM_w hun hhead ho
        have hsm := scanM_tok hne (by rw [hu]; exact ho)
        rw [hu] at hsm
        rw [ScanB_tok hsm]
        have hch := oneM_ch.1 kd x w ho
        have hi := ih (u.drop w) (by rw [List.length_drop]; omega) (pu + w) (acc ++ [tokS (bl s) (kd, x, u)]) (by rw [← List.drop_drop, hdu]) (by omega) (hcu.trans hch) (by rw [List.length_append, List.length_singleton]; omega)
        refine hi.to fun k => ?_
        show (if (0 : Int) = 0 then (if acc.length < 2932031007402 then ((some (acc ++ [_])).bind _) else none) else _) = _
        rw [if_pos rfl, if_pos (by omega), Option.bind_some]
        show (if (kd : Int) = 0 then _ else _) = _
        rw [if_neg (by omega), htok]
theorem scan_ref {s : ByteArray} (hs : s.size ≤ 140737488351232) : Evn (fun k => glossaryref05_Scan.f k s) (match scanE (bl s) with
    | some x => (([] : List S38), (x.1 : Int), (x.2.1 : Int), (x.2.2 : Int))
    | none => ((scanM (bl s)).1.map (tokS (bl s)), 0, 0, 0)) := by
  have hl := bl_len s
  by_cases h1 : 1048576 < s.size
  · have hE : scanE (bl s) = some (5, 0, 0) := by unfold scanE; rw [if_pos (by rw [hl]; exact h1)]
    rw [hE]
    refine Evn.all fun k => ?_
    show glossaryref05_Scan.f k s = _
    unfold glossaryref05_Scan.f
    rw [if_pos (by omega)]; rfl
  · have hli := lines_ref hs
    by_cases h2 : 65536 < linesN (bl s)
    · have hE : scanE (bl s) = some (5, 65537, 1) := by unfold scanE; rw [if_neg (by omega), if_pos h2]
      rw [hE]
      refine (Evn.bind (h := fun k (t230 : Int) => if t230 > 65536 then (some (([] : List (S38)), (5 : Int), (65537 : Int), (1 : Int))) else (glossaryref05_Scan.l0 k s ([] : List (S38)) 0)) hli (b := ([], 5, 65537, 1)) (Evn.all fun k => by rw [if_pos (by omega)])).to fun k => ?_
      show glossaryref05_Scan.f k s = _
      unfold glossaryref05_Scan.f
      rw [if_neg (by omega)]
    · have hE : scanE (bl s) = match (scanM (bl s)).2 with
          | some x => some (x.1, place (bl s) x.2)
          | none => none := by unfold scanE; rw [if_neg (by omega), if_neg h2]; cases (scanM (bl s)).2 <;> rfl
      have hsc := scan_l0 (s := s) (by omega) _ (bl s) (Nat.le_refl _) 0 [] (by rw [List.drop_zero]) (Nat.zero_le _) (Ch.refl _) (Nat.le_refl _)
      have hfin : ScanB (bl s) (bl s) [] = (match scanE (bl s) with
          | some x => (([] : List S38), (x.1 : Int), (x.2.1 : Int), (x.2.2 : Int))
          | none => ((scanM (bl s)).1.map (tokS (bl s)), 0, 0, 0)) := by
        rw [hE]
        cases hm : (scanM (bl s)).2 with
        | none => rw [ScanB_none hm]; rfl
        | some x => rw [ScanB_some hm]
      rw [hfin] at hsc
      refine (Evn.bind (h := fun k (t230 : Int) => if t230 > 65536 then (some (([] : List (S38)), (5 : Int), (65537 : Int), (1 : Int))) else (glossaryref05_Scan.l0 k s ([] : List (S38)) 0)) hli (hsc.to fun k => ?_)).to fun k => ?_
      · show (if ((linesN (bl s) : Nat) : Int) > 65536 then _ else _) = _
        rw [if_neg (by omega)]; rfl
      · show glossaryref05_Scan.f k s = _
        unfold glossaryref05_Scan.f
        rw [if_neg (by omega)]
end Go.Proofs.YtekoeobfddfgpaaGreatDoor.C
set_option linter.unusedVariables false
set_option linter.unusedSimpArgs false
namespace Go.Proofs.YtekoeobfddfgpaaGreatDoor.C
open Go Go.RowKit Go.Proofs.YtekoeobfddfgpaaGreatDoor.M Go.Proofs.YtekoeobfddfgpaaGreatDoor.E Go.Proofs.YtekoeobfddfgpaaGreatDoor.PAll Go.Proofs.YtekoeobfddfgpaaGreatDoorW.PrintWords
def mkS (k i : Int) : ByteArray := strOfNums [35, k % 256, (k / 256) % 256, i % 256, (i / 256) % 256]
def mkC (k i : Int) : List Value := [.int .i64 (-7), .string (mkS k i), .int .i64 0, .int .i64 0, .int .i64 0]
theorem mark_any (k i : Int) (w : World) :
    Calls Tryz.prog 24 #[.int .i64 k, .int .i64 i] w fun e w' => e = .returned (.agg #[.int .i64 (-7), .string (mkS k i), .int .i64 0, .int .i64 0, .int .i64 0]) ∧ Below w.heap.size w w' :=
  glossarykit_markTokens.calls k i (-7) (mkS k i) 0 0 0 w rfl
def mkL (k n : Nat) : List Value := (List.range n).flatMap fun (i : Nat) => mkC k i
theorem mkC_len (k i : Int) : (mkC k i).length = 5 := rfl
theorem mkL_succ (k n : Nat) : mkL k (n + 1) = mkL k n ++ mkC k n := by simp [mkL, List.range_succ]
theorem mkL_len (k n : Nat) : (mkL k n).length = n * 5 := by
  induction n with
  | zero => simp [mkL]
  | succ n ih => rw [mkL_succ, List.length_append, ih, mkC_len]; omega
theorem mkL_get {k n i c : Nat} (h : i < n) (hc : c < 5) : (mkL k n)[i * 5 + c]? = (mkC k i)[c]? := by
  induction n with
  | zero => omega
  | succ n ih =>
    rw [mkL_succ]
    by_cases hn : i = n
    · subst hn
      rw [List.getElem?_append_right (by rw [mkL_len]; omega), mkL_len, Nat.add_sub_cancel_left]
    · rw [List.getElem?_append_left (by rw [mkL_len]; omega)]
      exact ih (by omega)
def setL : List Value → Nat → List Value → List Value
  | xs, _, [] => xs
  | xs, j, u :: r => setL (xs.set j u) (j + 1) r
theorem setL_get : ∀ (us : List Value) (xs : List Value) (j q : Nat), j + us.length ≤ xs.length → (setL xs j us)[q]? = if j ≤ q ∧ q < j + us.length then us[q - j]? else xs[q]? := by
  intro us
  induction us with
  | nil => intro xs j q h; rw [setL, if_neg (by simp <;> omega)]
  | cons u us ih =>
    intro xs j q h
    rw [setL, ih _ _ _ (by rw [List.length_set]; simp at h; omega), List.length_cons]
    by_cases h1 : q = j
    · subst h1
      rw [if_neg (by omega), if_pos (by omega), List.getElem?_set_self (by simp at h; omega), Nat.sub_self]; rfl
    · by_cases h2 : j + 1 ≤ q ∧ q < j + 1 + us.length
      · rw [if_pos h2, if_pos (by omega), show q - j = (q - (j + 1)) + 1 by omega, List.getElem?_cons_succ]
      · rw [if_neg h2, if_neg (by omega), List.getElem?_set_ne (by omega)]
theorem rowSet {base e size g cap n : Nat} : ∀ (us : List Value) (w : World) (xs : List Value) (j : Nat), w.ownsRow base e size (.slice (some ⟨g, 0, none⟩) n cap) n xs →
    (w.setCells g j us).ownsRow base e size (.slice (some ⟨g, 0, none⟩) n cap) n (setL xs j us) ∧ w.grownBy (w.setCells g j us) (some g) := by
  intro us
  induction us with
  | nil => intro w xs j h; exact ⟨h, ⟨rfl, rfl, rfl, Nat.le_refl _, fun _ _ _ => rfl⟩⟩
  | cons u us ih =>
    intro w xs j h
    obtain ⟨h1, h2⟩ := h.stored j u
    obtain ⟨h3, h4⟩ := ih _ _ (j + 1) h1
    exact ⟨h3, ⟨h4.os.trans h2.os, h4.tape.trans h2.tape, h4.output.trans h2.output, Nat.le_trans h2.size h4.size, fun k hk hne => (h4.block k (Nat.lt_of_lt_of_le hk h2.size) hne).trans (h2.block k hk hne)⟩⟩
theorem row_next {w w' : World} {base e size n : Nat} {v : Value} {xs : List Value} (h : w.ownsRow base e size v n xs) (hb : Below w.heap.size w w') : w'.ownsRow base e size v n xs := owns_obj h (Keeps.of_below0 hb) (fun _ _ h => h)
section
variable (W0 : World) (base lb m : Nat) (ax : Nat → Option Addr) (ns cs : Nat → Nat)
abbrev vAt (ax : Nat → Option Addr) (ns cs : Nat → Nat) (j : Nat) : Value := .slice (ax j) (ns j) (cs j)
structure Ph (cls : Nat → Nat) (d : Nat → Nat) (wr : World) : Prop where
  below : Below base W0 wr
  size : base ≤ W0.heap.size
  lbl : lb < W0.heap.size
  lst : ∀ j, j < m → wr.cell? ⟨lb, j, none⟩ = some (vAt ax ns cs j)
  lbc : cls lb = 100
  row : ∀ j, j < m → ∃ xs : List Value, wr.ownsRow base 38 5 (vAt ax ns cs j) (ns j) xs ∧ ∀ t, t < d j → ∀ c, c < 5 → xs[t * 5 + c]? = (mkC j t)[c]?
  cl : ∀ j, j < m → ∀ b, (vAt ax ns cs j).ownBlock = some b → cls b = j
end
section
variable {W0 : World} {base lb m : Nat} {ax : Nat → Option Addr} {ns cs : Nat → Nat} {cls d : Nat → Nat} {wr : World}
theorem Ph.congr (h : Ph W0 base lb m ax ns cs cls d wr) {d' : Nat → Nat} (hd : ∀ j, j < m → d' j ≤ d j) : Ph W0 base lb m ax ns cs cls d' wr :=
  ⟨h.below, h.size, h.lbl, h.lst, h.lbc, fun j hj => by obtain ⟨xs, h1, h2⟩ := h.row j hj; exact ⟨xs, h1, fun t ht => h2 t (Nat.lt_of_lt_of_le ht (hd j hj))⟩, h.cl⟩
theorem Ph.drew (h : Ph W0 base lb m ax ns cs cls d wr) : Ph W0 base lb m ax ns cs cls d wr.drew :=
  ⟨h.below.drew, h.size, h.lbl, h.lst, h.lbc, fun j hj => by obtain ⟨xs, h1, h2⟩ := h.row j hj; exact ⟨xs, h1.drew, h2⟩, h.cl⟩
theorem Ph.form (h : Ph W0 base lb m ax ns cs cls d wr) {j : Nat} (hj : j < m) (h0 : 0 < ns j) : ∃ g, ax j = some ⟨g, 0, none⟩ ∧ base ≤ g ∧ g < wr.heap.size ∧ cls g = j := by
  obtain ⟨xs, h1, _⟩ := h.row j hj
  obtain ⟨g, cap, e, hb, hlt⟩ := h1.form h0
  have e' : ax j = some ⟨g, 0, none⟩ := by injection e
  exact ⟨g, e', hb, hlt, h.cl j hj g (by simp [vAt, Value.ownBlock, e'])⟩
theorem Ph.cellAt (h : Ph W0 base lb m ax ns cs cls d wr) {j g i : Nat} (hj : j < m) (hg : ax j = some ⟨g, 0, none⟩) (hi : i < ns j) :
    ∀ c, c < 5 → (∃ old, wr.cell? ⟨g, i * 5 + c, none⟩ = some old) ∧ wr.frozen? ⟨g, i * 5 + c, none⟩ = false := by
  obtain ⟨xs, h1, _⟩ := h.row j hj
  have e : vAt ax ns cs j = .slice (some ⟨g, 0, none⟩) (ns j) (cs j) := by simp [vAt, hg]
  rw [e] at h1
  have hl := h1.1
  refine fun c hc => ⟨?_, h1.frozenAt _⟩
  rw [h1.cellAt (i * 5 + c) (by omega)]
  exact ⟨_, List.getElem?_eq_getElem (by omega)⟩
theorem Ph.lt (h : Ph W0 base lb m ax ns cs cls d wr) {j : Nat} (hj : j < m) : lb < wr.heap.size := cell_blk (h.lst j hj)
theorem Ph.next {w' : World} (h : Ph W0 base lb m ax ns cs cls d wr) (hb : Below wr.heap.size wr w') : Ph W0 base lb m ax ns cs cls d w' :=
  ⟨h.below.trans (hb.mono (Nat.le_trans h.size h.below.size)), h.size, h.lbl, fun j hj => (hb.cell (p := ⟨lb, j, none⟩) (cell_blk (h.lst j hj))).trans (h.lst j hj), h.lbc,
    fun j hj => by obtain ⟨xs, h1, h2⟩ := h.row j hj; exact ⟨xs, row_next h1 hb, h2⟩, h.cl⟩
theorem Ph.store (h : Ph W0 base lb m ax ns cs cls d wr) (hm : m ≤ 16) {k i g : Nat} (hk : k < m) (hi : i < ns k) (hd : i ≤ d k) (hg : ax k = some ⟨g, 0, none⟩) {d' : Nat → Nat} (hd' : ∀ j, j < m → d' j ≤ if j = k then i + 1 else d j) :
    Ph W0 base lb m ax ns cs cls d' (wr.setCells g (i * 5) (mkC k i)) := by
  have hck : cls g = k := h.cl k hk g (by simp [vAt, Value.ownBlock, hg])
  obtain ⟨xk, hk1, hk2⟩ := h.row k hk
  have hgb : base ≤ g := by
    have := hk1.lt g (by simp [vAt, Value.ownBlock, hg])
    omega
  have hkr : wr.ownsRow base 38 5 (.slice (some ⟨g, 0, none⟩) (ns k) (cs k)) (ns k) xk := by
    have : vAt ax ns cs k = .slice (some ⟨g, 0, none⟩) (ns k) (cs k) := by simp [vAt, hg]
    rw [this] at hk1; exact hk1
  obtain ⟨hs1, hs2⟩ := rowSet (mkC k i) _ _ (i * 5) hkr
  refine ⟨h.below.grown hs2 (Nat.le_trans h.size h.below.size) (fun b e => by cases e; exact hgb), h.size, h.lbl, fun j hj => ?_, h.lbc, fun j hj => ?_, h.cl⟩
  · have hne : lb ≠ g := by intro e; have := h.lbc; rw [e, hck] at this; omega
    exact hs2.cell (h.lst j hj) (fun e => hne (by injection e))
  · by_cases hjk : j = k
    · subst hjk
      have e : vAt ax ns cs j = .slice (some ⟨g, 0, none⟩) (ns j) (cs j) := by simp [vAt, hg]
      refine ⟨_, by rw [e]; exact hs1, fun t ht c hc => ?_⟩
      have hx := hd' j hj
      rw [if_pos rfl] at hx
      have hlen : xk.length = ns j * 5 := hkr.1
      rw [setL_get _ _ _ _ (by rw [mkC_len]; omega), mkC_len]
      by_cases hti : t = i
      · subst hti
        rw [if_pos (by omega), Nat.add_sub_cancel_left]
      · rw [if_neg (by omega)]
        exact hk2 t (by omega) c hc
    · obtain ⟨xs, h1, h2⟩ := h.row j hj
      refine ⟨xs, h1.kept hs2 ?_, fun t ht => h2 t ?_⟩
      · right
        intro e
        have := h.cl j hj g e
        omega
      · have hx := hd' j hj
        rw [if_neg hjk] at hx
        omega
end
abbrev uAt (ub uc ns : Nat → Nat) (j : Nat) : Value := .slice (some ⟨ub j, 0, none⟩) (ns j + 64) (uc j)
structure Pg (W0 : World) (base lb m : Nat) (ax : Nat → Option Addr) (ns cs : Nat → Nat) (cls : Nat → Nat) (ub uc : Nat → Nat) (k : Nat) (gsv : Value) (wr : World) : Prop where
  ph : Ph W0 base lb m ax ns cs cls ns wr
  big : ∀ j, j < k → wr.ownsRow base 38 5 (uAt ub uc ns j) (ns j + 64) (mkL j (ns j + 64)) ∧ cls (ub j) = j
  gs : wr.ownsRow base 24 1 gsv k ((List.range k).map (uAt ub uc ns))
  gc : ∀ b, gsv.ownBlock = some b → cls b = 101
structure Gk (base : Nat) (ns : Nat → Nat) (cls : Nat → Nat) (k : Nat) (gv : Value) (i : Nat) (wr : World) : Prop where
  row : wr.ownsRow base 38 5 gv (ns k + i) (mkL k (ns k + i))
  cl : ∀ b, gv.ownBlock = some b → cls b = k
section
variable {W0 : World} {base lb m : Nat} {ax : Nat → Option Addr} {ns cs : Nat → Nat} {cls d ub uc : Nat → Nat} {k : Nat} {gsv gv : Value} {wr : World}
theorem Ph.alloc (h : Ph W0 base lb m ax ns cs cls d wr) (o : Obj) : Ph W0 base lb m ax ns cs cls d (wr.alloc o) :=
  ⟨h.below.alloc (Nat.le_trans h.size h.below.size) o, h.size, h.lbl, fun j hj => by rw [World.cell?_alloc_lt _ _ _ (cell_blk (h.lst j hj))]; exact h.lst j hj, h.lbc,
    fun j hj => by obtain ⟨xs, h1, h2⟩ := h.row j hj; exact ⟨xs, h1.alloc o, h2⟩, h.cl⟩
theorem Pg.alloc (h : Pg W0 base lb m ax ns cs cls ub uc k gsv wr) (o : Obj) : Pg W0 base lb m ax ns cs cls ub uc k gsv (wr.alloc o) :=
  ⟨h.ph.alloc o, fun j hj => ⟨(h.big j hj).1.alloc o, (h.big j hj).2⟩, h.gs.alloc o, h.gc⟩
theorem Gk.alloc {i : Nat} (h : Gk base ns cls k gv i wr) (o : Obj) : Gk base ns cls k gv i (wr.alloc o) := ⟨h.row.alloc o, h.cl⟩
theorem Pg.next {w' : World} (h : Pg W0 base lb m ax ns cs cls ub uc k gsv wr) (hb : Below wr.heap.size wr w') : Pg W0 base lb m ax ns cs cls ub uc k gsv w' :=
  ⟨h.ph.next hb, fun j hj => ⟨row_next (h.big j hj).1 hb, (h.big j hj).2⟩, row_next h.gs hb, h.gc⟩
theorem Gk.next {w' : World} {i : Nat} (h : Gk base ns cls k gv i wr) (hb : Below wr.heap.size wr w') : Gk base ns cls k gv i w' := ⟨row_next h.row hb, h.cl⟩
theorem Pg.start (h : Ph W0 base lb m ax ns cs cls ns wr) : Pg W0 base lb m ax ns cs cls ub uc 0 (.slice none 0 0) wr :=
  ⟨h, fun j hj => by omega, World.ownsRow_nil _ _ _ _, fun b hb => by simp [Value.ownBlock] at hb⟩
theorem Gk.start (h : Ph W0 base lb m ax ns cs cls ns wr) (hk : k < m) : Gk base ns cls k (vAt ax ns cs k) 0 wr := by
  obtain ⟨xs, h1, h2⟩ := h.row k hk
  refine ⟨?_, h.cl k hk⟩
  have hl : xs.length = ns k * 5 := h1.1
  have e : xs = mkL k (ns k) := by
    apply List.ext_getElem?
    intro q
    rcases Nat.lt_or_ge q (ns k * 5) with ht | ht
    · have hq : q = (q / 5) * 5 + q % 5 := by omega
      rw [hq, h2 (q / 5) (by omega) (q % 5) (by omega), mkL_get (by omega) (by omega)]
    · rw [List.getElem?_eq_none (by omega), List.getElem?_eq_none (by rw [mkL_len]; exact ht)]
  rw [Nat.add_zero, ← e]; exact h1
theorem Ph.kept {w' : World} {row : Option Nat} {cls' : Nat → Nat} (h : Ph W0 base lb m ax ns cs cls ns wr) (hg : wr.grownBy w' row) (hrb : ∀ b, row = some b → base ≤ b) (hlb : row ≠ some lb)
    (hc : ∀ b, b < wr.heap.size → cls' b = cls b)
    (hrow : ∀ j, j < m → ∀ xs, wr.ownsRow base 38 5 (vAt ax ns cs j) (ns j) xs → w'.ownsRow base 38 5 (vAt ax ns cs j) (ns j) xs) : Ph W0 base lb m ax ns cs cls' ns w' :=
  ⟨h.below.grown hg (Nat.le_trans h.size h.below.size) (fun k e => hrb k e), h.size, h.lbl, fun j hj => hg.cell (h.lst j hj) (fun e => hlb e.symm),
    by rw [hc _ (Nat.lt_of_lt_of_le h.lbl h.below.size)]; exact h.lbc,
    fun j hj => by obtain ⟨xs, h1, h2⟩ := h.row j hj; exact ⟨xs, hrow j hj _ h1, h2⟩,
    fun j hj b hb => by obtain ⟨xs, h1, _⟩ := h.row j hj; rw [hc b (h1.lt b hb).2]; exact h.cl j hj b hb⟩
theorem Pg.grow {w' : World} {g cap i : Nat} (hp : Pg W0 base lb m ax ns cs cls ub uc k gsv wr) (hq : Gk base ns cls k gv i wr) (hk : k < m) (hm : m ≤ 16)
    (hown : w'.ownsRow base 38 5 (.slice (some ⟨g, 0, none⟩) (ns k + i + 1) cap) (ns k + i + 1) (mkL k (ns k + i) ++ mkC k ((ns k + i : Nat) : Int)))
    (hg : wr.grownBy w' gv.ownBlock) (hl : gv.ownBlock = some g ∨ g = wr.heap.size)
    (hkeep : ∀ b0 v0 n0 xs0, wr.ownsRow b0 38 5 v0 n0 xs0 → n0 ≤ ns k + i → w'.ownsRow b0 38 5 v0 n0 xs0) :
    ∃ cls', Pg W0 base lb m ax ns cs cls' ub uc k gsv w' ∧ Gk base ns cls' k (.slice (some ⟨g, 0, none⟩) (ns k + i + 1) cap) (i + 1) w' := by
  obtain ⟨c', hc, hcg⟩ : ∃ c' : Nat → Nat, (∀ b, b < wr.heap.size → c' b = cls b) ∧ c' g = k := by
    refine ⟨fun b => if b = g then k else cls b, fun b hb => ?_, by simp⟩
    by_cases e : b = g
    · subst e
      rcases hl with h | h
      · simp only [if_pos]
        exact (hq.cl b h).symm
      · omega
    · simp only [if_neg e]
  have hne : ∀ (v : Value) (c : Nat), c ≠ k → (∀ b, v.ownBlock = some b → cls b = c) → v.ownBlock = none ∨ v.ownBlock ≠ gv.ownBlock := fun v c hck hv => by
    cases h : v.ownBlock with
    | none => exact .inl rfl
    | some b =>
      right
      intro e
      have := hv b h
      have := hq.cl b e.symm
      omega
  refine ⟨c', ⟨?_, fun j hj => ?_, hp.gs.kept hg (hne _ 101 (by omega) hp.gc), fun b hb => ?_⟩, ⟨?_, fun b hb => ?_⟩⟩
  · refine hp.ph.kept hg (fun b hb => (hq.row.lt b hb).1) (fun e => ?_) hc (fun j hj xs h1 => ?_)
    · have := hq.cl lb e; have := hp.ph.lbc; omega
    · by_cases hjk : j = k
      · subst hjk; exact hkeep _ _ _ _ h1 (by omega)
      · exact h1.kept hg (hne _ j hjk (hp.ph.cl j hj))
  · obtain ⟨h1, h2⟩ := hp.big j hj
    refine ⟨h1.kept hg (hne _ j (by omega) (fun b hb => ?_)), ?_⟩
    · have : ub j = b := by simpa [uAt, Value.ownBlock] using hb
      rw [← this]; exact h2
    · rw [hc _ (h1.lt (ub j) (by simp [uAt, Value.ownBlock])).2]; exact h2
  · rw [hc _ (hp.gs.lt b hb).2]; exact hp.gc b hb
  · rw [← Nat.add_assoc, mkL_succ]; exact hown
  · have : g = b := by simpa [Value.ownBlock] using hb
    subst this
    exact hcg
theorem Pg.push {w' : World} {g cap gb gcap : Nat} (hp : Pg W0 base lb m ax ns cs cls ub uc k gsv wr) (hq : Gk base ns cls k (.slice (some ⟨g, 0, none⟩) (ns k + 64) cap) 64 wr) (hk : k < m) (hm : m ≤ 16)
    (hown : w'.ownsRow base 24 1 (.slice (some ⟨gb, 0, none⟩) (k + 1) gcap) (k + 1) ((List.range k).map (uAt ub uc ns) ++ [.slice (some ⟨g, 0, none⟩) (ns k + 64) cap]))
    (hg : wr.grownBy w' gsv.ownBlock) (hl : gsv.ownBlock = some gb ∨ gb = wr.heap.size) :
    ∃ cls' ub' uc', Pg W0 base lb m ax ns cs cls' ub' uc' (k + 1) (.slice (some ⟨gb, 0, none⟩) (k + 1) gcap) w' := by
  obtain ⟨c', hc, hcg⟩ : ∃ c' : Nat → Nat, (∀ b, b < wr.heap.size → c' b = cls b) ∧ c' gb = 101 := by
    refine ⟨fun b => if b = gb then 101 else cls b, fun b hb => ?_, by simp⟩
    by_cases e : b = gb
    · subst e
      rcases hl with h | h
      · simp only [if_pos]
        exact (hp.gc b h).symm
      · omega
    · simp only [if_neg e]
  have hne : ∀ (v : Value) (c : Nat), c ≠ 101 → (∀ b, v.ownBlock = some b → cls b = c) → v.ownBlock = none ∨ v.ownBlock ≠ gsv.ownBlock := fun v c hck hv => by
    cases h : v.ownBlock with
    | none => exact .inl rfl
    | some b =>
      right
      intro e
      have := hv b h
      have := hp.gc b e.symm
      omega
  refine ⟨c', fun j => if j = k then g else ub j, fun j => if j = k then cap else uc j, ⟨?_, fun j hj => ?_, ?_, fun b hb => ?_⟩⟩
  · refine hp.ph.kept hg (fun b hb => (hp.gs.lt b hb).1) (fun e => ?_) hc (fun j hj xs h1 => h1.kept hg (hne _ j (by omega) (hp.ph.cl j hj)))
    have := hp.gc lb e; have := hp.ph.lbc; omega
  · by_cases hjk : j = k
    · subst hjk
      simp only [uAt, ite_true, if_true]
      refine ⟨hq.row.kept hg (hne _ j (by omega) hq.cl), ?_⟩
      rw [hc _ (hq.row.lt g (by simp [Value.ownBlock])).2]
      exact hq.cl g (by simp [Value.ownBlock])
    · obtain ⟨h1, h2⟩ := hp.big j (by omega)
      simp only [uAt, if_neg hjk]
      refine ⟨h1.kept hg (hne _ j (by omega) (fun b hb => ?_)), ?_⟩
      · have : ub j = b := by simpa [uAt, Value.ownBlock] using hb
        rw [← this]; exact h2
      · rw [hc _ (h1.lt (ub j) (by simp [uAt, Value.ownBlock])).2]; exact h2
  · have e : (List.range (k + 1)).map (uAt (fun j => if j = k then g else ub j) (fun j => if j = k then cap else uc j) ns) = (List.range k).map (uAt ub uc ns) ++ [.slice (some ⟨g, 0, none⟩) (ns k + 64) cap] := by
      rw [List.range_succ, List.map_append]
      congr 1
      · apply List.map_congr_left
        intro j hj
        have : j ≠ k := by have := List.mem_range.1 hj; omega
        simp [uAt, this]
      · simp [uAt]
    rw [e]; exact hown
  · have : gb = b := by simpa [Value.ownBlock] using hb
    subst this
    exact hcg
end
end Go.Proofs.YtekoeobfddfgpaaGreatDoor.C
set_option linter.unusedVariables false
set_option linter.unusedSimpArgs false
namespace Go.Proofs.YtekoeobfddfgpaaGreatDoor.C
open Go Go.RowKit Go.Proofs.YtekoeobfddfgpaaGreatDoor.M Go.Proofs.YtekoeobfddfgpaaGreatDoor.E Go.Proofs.YtekoeobfddfgpaaGreatDoor.PAll Go.Proofs.YtekoeobfddfgpaaGreatDoorW.PrintWords
theorem Tryz.infoSTok : (Tryz.prog.info? 24).map (fun i => (i.zero, i.size, i.bytes)) = some (some (.slice none 0 0), 1, 24) := by kernel_rfl
set_option maxHeartbeats 4000000 in
set_option maxRecDepth 1000000 in
theorem apart_any (W0 : World) (base lb m : Nat) (ax : Nat → Option Addr) (ns cs : Nat → Nat) (cls : Nat → Nat) (hm0 : 0 < m) (hm : m ≤ 16) (hn : ∀ j, j < m → ns j ≤ 1048576)
    (hstart : Ph W0 base lb m ax ns cs cls (fun _ => 0) W0) :
    Calls Tryz.prog 12 #[.slice (some ⟨lb, 0, none⟩) m m] W0 fun e w' => e = .returned (.bool true) ∧ Below base W0 w' := by
  have hm0I : (0 : Int) < m := by omega
  go_enter Tryz.func12, Tryz.ntmps12
  go_wp2
  go_loopw [3] (fun kv wr => ∃ k : Nat, kv = .int .i64 k ∧ k ≤ m ∧ Ph W0 base lb m ax ns cs cls (fun j => if j < k then ns j else 0) wr) (fun kv _ => m - (intOf kv).toNat)
  case atStart => exact ⟨0, rfl, Nat.zero_le _, hstart.congr (fun j hj => by simp)⟩
  case round =>
    obtain ⟨k, rfl, hk, hph⟩ := hrel
    by_cases hlt : k < m
    · have hltI : (k : Int) < m := by omega
      go_wp2
      go_loopw [4] (fun iv wr => ∃ i : Nat, iv = .int .i64 i ∧ i ≤ ns k ∧ Ph W0 base lb m ax ns cs cls (fun j => if j < k then ns j else if j = k then i else 0) wr) (fun iv _ => ns k - (intOf iv).toNat)
      case atStart => exact ⟨0, rfl, Nat.zero_le _, hph.congr (fun j hj => by simp)⟩
      case round =>
        obtain ⟨i, rfl, hi, hph2⟩ := hrel
        have hld := hph2.lst k hlt
        have hnk := hn k hlt
        by_cases hil : i < ns k
        · have hilI : (i : Int) < ns k := by omega
          obtain ⟨g, hg, hgb, hgl, _⟩ := hph2.form hlt (by omega)
          have hst : ∀ w : World, Below wr.heap.size wr w → Ph W0 base lb m ax ns cs cls (fun j => if j < k then ns j else if j = k then i + 1 else 0) (w.setCells g (i * 5) (mkC k i)) := fun w hw =>
            (hph2.next hw).store hm hlt hil (by simp) hg (fun j hj => by
              by_cases h1 : j = k
              · subst h1; simp
              · simp [h1])
          have hcl : ∀ w : World, Below wr.heap.size wr w → ∀ c, c < 5 → (∃ old, w.cell? ⟨g, i * 5 + c, none⟩ = some old) ∧ w.frozen? ⟨g, i * 5 + c, none⟩ = false := fun w hw => (hph2.next hw).cellAt hlt hg hil
          have hls : ∀ w : World, Below wr.heap.size wr w → w.cell? ⟨lb, k, none⟩ = some (.slice (some ⟨g, 0, none⟩) (ns k) (cs k)) := fun w hw => by
            have := (hph2.next hw).lst k hlt
            rwa [vAt, hg] at this
          have Hst := Lib.hid hst
          have Hcl := Lib.hid hcl
          have Hls := Lib.hid hls
          have hld0 := hls wr.drew ((Below.refl _ wr).drew)
          have cM : ∀ W : World, Calls Tryz.prog 24 #[.int .i64 k, .int .i64 i] W fun e w' => e = .returned (.agg #[.int .i64 (-7), .string (mkS k i), .int .i64 0, .int .i64 0, .int .i64 0]) ∧ Below W.heap.size W w' := fun W => mark_any k i W
          clear hst hcl hls
          rw [vAt, hg] at hld
          have hk0 : (0 : Int) ≤ k := by omega
          have hlbl := hph2.lbl
          go_wp2_with fail
          go_region_with ((refine (cM _).mono ?_; rintro e w5 ⟨rfl, hb5⟩; have hbw5 : Below wr.heap.size wr w5 := ((Below.refl _ wr).drew).trans hb5; have hld5 := Hls.out w5 hbw5; obtain ⟨⟨o0, c0⟩, f0⟩ := Hcl.out w5 hbw5 0 (by decide); rw [Nat.add_zero] at c0 f0; obtain ⟨⟨o1, c1⟩, f1⟩ := Hcl.out w5 hbw5 1 (by decide); obtain ⟨⟨o2, c2⟩, f2⟩ := Hcl.out w5 hbw5 2 (by decide); obtain ⟨⟨o3, c3⟩, f3⟩ := Hcl.out w5 hbw5 3 (by decide); obtain ⟨⟨o4, c4⟩, f4⟩ := Hcl.out w5 hbw5 4 (by decide)))
          all_goals
            have hst5 := Hst.out w5 hbw5
            clear c0 c1 c2 c3 c4 f0 f1 f2 f3 f4 hld5 hph2 cM
            go_wp2
            go_roundw
            case rel => exact ⟨i + 1, by go_num, by omega, hst5⟩
            case measure => simp [intOf]; omega
        · have hge : (ns k : Int) ≤ i := by omega
          go_wp2
          go_roundw
          case rel => exact ⟨k + 1, by go_num, by omega, hph2.congr (fun j hj => by
            by_cases h1 : j = k
            · subst h1; simp; omega
            · by_cases h2 : j < k
              · have h3 : j < k + 1 := by omega
                simp [h2, h3]
              · have h3 : ¬ j < k + 1 := by omega
                simp [h1, h2, h3])⟩
          case measure => simp [intOf]; omega
    · have hge : (m : Int) ≤ k := by omega
      have hph3 : Ph W0 base lb m ax ns cs cls ns wr := hph.congr (fun j hj => by
        have h3 : j < k := by omega
        simp [h3])
      clear hph hstart
      obtain ⟨i0, hi0, hz0, hz1, hz2⟩ := info_parts Tryz.infoTok
      obtain ⟨i1, hi1, hy0, hy1, hy2⟩ := info_parts Tryz.infoSTok
      go_wp2
      go_loopw [5, 6] (fun gv kv wr => ∃ (k : Nat) (cls ub uc : Nat → Nat), kv = .int .i64 k ∧ k ≤ m ∧ Pg W0 base lb m ax ns cs cls ub uc k gv wr) (fun _ kv _ => m - (intOf kv).toNat)
      case atStart => exact ⟨0, cls, ns, ns, rfl, Nat.zero_le _, Pg.start hph3⟩
      case round =>
        obtain ⟨k, cls, ub, uc, rfl, hk, hpg⟩ := hrel
        by_cases hlt : k < m
        · have hltI : (k : Int) < m := by omega
          have hld := hpg.ph.lst k hlt
          have hgk := Gk.start hpg.ph hlt
          go_wp2
          go_loopw [7, 8] (fun gv iv wr => ∃ (i : Nat) (cls : Nat → Nat), iv = .int .i64 i ∧ i ≤ 64 ∧ Pg W0 base lb m ax ns cs cls ub uc k u5 wr ∧ Gk base ns cls k gv i wr) (fun _ iv _ => 64 - (intOf iv).toNat)
          case atStart => exact ⟨0, cls, rfl, by omega, hpg, hgk⟩
          case round =>
            obtain ⟨i, cls, rfl, hi, hpg, hgk⟩ := hrel
            have hld := hpg.ph.lst k hlt
            by_cases hil : i < 64
            · have hilI : (i : Int) < 64 := by omega
              have hk0 : (0 : Int) ≤ k := by omega
              have hnk := hn k hlt
              have hbs : base ≤ wr.heap.size := Nat.le_trans hpg.ph.size hpg.ph.below.size
              have cM : ∀ W : World, Calls Tryz.prog 24 #[.int .i64 k, .int .i64 (ns k + i)] W fun e w' => e = .returned (.agg #[.int .i64 (-7), .string (mkS (k : Nat) ((ns k + i : Nat) : Int)), .int .i64 0, .int .i64 0, .int .i64 0]) ∧ Below W.heap.size W w' := fun W => by
                have := mark_any k (ns k + i) W
                rw [← Int.natCast_add] at this ⊢
                exact this
              obtain ⟨mv, hmv⟩ : ∃ mv, mkS (k : Nat) ((ns k + i : Nat) : Int) = mv := ⟨_, rfl⟩
              rw [hmv] at cM
              have Hmv := Lib.hid (show mkC (k : Nat) ((ns k + i : Nat) : Int) = [.int .i64 (-7), .string mv, .int .i64 0, .int .i64 0, .int .i64 0] by rw [← hmv]; rfl)
              clear hmv
              go_wp2_with fail
              refine (cM _).mono ?_
              rintro e w5 ⟨rfl, hb5⟩
              have hbs5 : base ≤ w5.heap.size := Nat.le_trans hbs hb5.size
              have hpg1 := (hpg.next hb5).alloc (.cells #[.int .i64 (-7), .string mv, .int .i64 0, .int .i64 0, .int .i64 0] 38)
              have hgk1 := (hgk.next hb5).alloc (.cells #[.int .i64 (-7), .string mv, .int .i64 0, .int .i64 0, .int .i64 0] 38)
              clear cM hpg hgk hld
              go_wp2_with ((at_builtin; refine Ap.wpList_append_keeps _ rfl (.tmp 50) (.tmp 60) 24 rfl base 38 i0 (.agg #[.int .i64 0, .string ⟨#[]⟩, .int .i64 0, .int .i64 0, .int .i64 0]) 5 48 Tryz.underlying24 hi0 hz0 hz1 hz2 rfl (by decide) u7 (ns k + i) (mkL k (ns k + i)) (by simp [Act.eval]) hgk1.row ⟨w5.heap.size, 0, none⟩ 1 1 [.int .i64 (-7), .string mv, .int .i64 0, .int .i64 0, .int .i64 0] (by simp [Act.eval]) rfl (World.news_of_block (heap_alloc_new w5 (.cells #[.int .i64 (-7), .string mv, .int .i64 0, .int .i64 0, .int .i64 0] 38))) (by intro u hu; simp at hu; rcases hu with rfl | rfl | rfl | rfl | rfl <;> rfl) (by decide) (by unfold maxLen; omega) (by omega) (by simp; omega) _ rfl ?_; intro g cap w1 hown hgr hlies hlt1 hkeep))
              obtain ⟨cls', hpg2, hgk2⟩ := hpg1.grow hgk1 hlt hm (by rw [Hmv.out]; exact hown) hgr hlies hkeep
              clear hpg1 hgk1 hown hgr hlies hlt1 hkeep
              go_wp2
              go_roundw
              case rel => exact ⟨i + 1, cls', by go_num, by omega, hpg2, hgk2⟩
              case measure => simp [intOf]; omega
            · have hge : (64 : Int) ≤ i := by omega
              obtain rfl : i = 64 := by omega
              obtain ⟨g, cap, rfl, hgb, hgl⟩ := hgk.row.form (by omega)
              have hpg1 := hpg.alloc (.cells #[.slice (some ⟨g, 0, none⟩) (ns k + 64) cap] 24)
              have hgk1 := hgk.alloc (.cells #[.slice (some ⟨g, 0, none⟩) (ns k + 64) cap] 24)
              have hbs : base ≤ wr.heap.size := Nat.le_trans hpg.ph.size hpg.ph.below.size
              go_wp2_with ((at_builtin; refine wpList_append_lies _ rfl (.tmp 62) (.tmp 64) 35 rfl base 24 i1 (.slice none 0 0) 1 24 Tryz.underlying35 hi1 hy0 hy1 hy2 rfl (by decide) u5 k ((List.range k).map (uAt ub uc ns)) (by simp [Act.eval]) hpg1.gs ⟨wr.heap.size, 0, none⟩ 1 1 [.slice (some ⟨g, 0, none⟩) (ns k + 64) cap] (by simp [Act.eval]) rfl (World.news_of_block (heap_alloc_new wr (.cells #[.slice (some ⟨g, 0, none⟩) (ns k + 64) cap] 24))) (by intro u hu; simp at hu; subst hu; rfl) (by decide) (by unfold maxLen; omega) (by omega) (by simp; omega) _ rfl ?_; intro gb gcap w1 hown hgr hlies hlt1))
              obtain ⟨cls', ub', uc', hpg2⟩ := hpg1.push hgk1 hlt hm hown hgr hlies
              clear hpg hgk hpg1 hgk1 hown hgr hlies hlt1 hld
              go_wp2
              go_roundw
              case rel => exact ⟨k + 1, cls', ub', uc', by go_num, by omega, hpg2⟩
              case measure => simp [intOf]; omega
        · have hge : (m : Int) ≤ k := by omega
          obtain rfl : k = m := by omega
          obtain ⟨gb, gcap, rfl, hgbb, hgbl⟩ := hpg.gs.form hm0
          have hG : ∀ j, j < k → wr.cell? ⟨gb, j, none⟩ = some (uAt ub uc ns j) := fun j hj => by
            rw [hpg.gs.cellAt j (by omega)]; simp [hj]
          have hU : ∀ j, j < k → ∀ i, i < ns j + 64 → ∀ (c : Nat) u, (mkC j i)[c]? = some u → wr.cell? ⟨ub j, i * 5 + c, none⟩ = some u := fun j hj i hi c u hu => by
            have hc5 : c < 5 := (List.getElem?_eq_some_iff.1 hu).1
            rw [(hpg.big j hj).1.cellAt (i * 5 + c) (by omega), mkL_get hi hc5, hu]
          have hLs := hpg.ph.lst
          have hVs : ∀ j, j < k → ∀ g i, ax j = some ⟨g, 0, none⟩ → i < ns j → ∀ (c : Nat) u, (mkC j i)[c]? = some u → wr.cell? ⟨g, i * 5 + c, none⟩ = some u := fun j hj g i hg hi c u hu => by
            have h1 := (Gk.start hpg.ph hj).row
            have e : vAt ax ns cs j = .slice (some ⟨g, 0, none⟩) (ns j) (cs j) := by simp [vAt, hg]
            rw [Nat.add_zero, e] at h1
            have hc5 : c < 5 := (List.getElem?_eq_some_iff.1 hu).1
            rw [h1.cellAt (i * 5 + c) (by omega), mkL_get hi hc5, hu]
          have hform := fun j (hj : j < k) (h0 : 0 < ns j) => hpg.ph.form hj h0
          have hubl : ∀ j, j < k → ub j < wr.heap.size := fun j hj => ((hpg.big j hj).1.lt (ub j) (by simp [uAt, Value.ownBlock])).2
          have hgbl : gb < wr.heap.size := hgbl
          have hlbl : lb < wr.heap.size := hpg.ph.lt (j := 0) hm0
          have hbel := hpg.ph.below
          have hbs : base ≤ wr.heap.size := Nat.le_trans hpg.ph.size hpg.ph.below.size
          have HG := Lib.hid hG
          have HU := Lib.hid hU
          have HLs := Lib.hid hLs
          have HVs := Lib.hid hVs
          have Hform := Lib.hid hform
          have Hubl := Lib.hid hubl
          have Hbel := Lib.hid hbel
          clear hG hU hLs hVs hform hpg hph3 hubl hbel
          obtain ⟨wG, rfl⟩ : ∃ wG, wG = wr := ⟨wr, rfl⟩
          go_wp2
          go_loopw [9] (fun kv w2 => ∃ j : Nat, kv = .int .i64 j ∧ j ≤ k ∧ Below wG.heap.size wG w2) (fun kv _ => k - (intOf kv).toNat)
          case atStart => exact ⟨0, rfl, Nat.zero_le _, Below.refl _ _⟩
          case round =>
            obtain ⟨j, rfl, hj, hbj⟩ := hrel
            by_cases hjl : j < k
            · have hjI : (j : Int) < k := by omega
              have hGj := (hbj.cell (p := ⟨gb, j, none⟩) hgbl).trans (HG.out j hjl)
              have hnj := hn j hjl
              go_wp2
              go_loopw [10] (fun iv w2 => ∃ i : Nat, iv = .int .i64 i ∧ i ≤ ns j + 64 ∧ Below wG.heap.size wG w2) (fun iv _ => ns j + 64 - (intOf iv).toNat)
              case atStart => exact ⟨0, rfl, Nat.zero_le _, hbj⟩
              case round =>
                obtain ⟨i, rfl, hi, hbi⟩ := hrel
                have hGi := (hbi.cell (p := ⟨gb, j, none⟩) hgbl).trans (HG.out j hjl)
                by_cases hil : i < ns j + 64
                · have hiI : (i : Int) < (ns j : Int) + 64 := by omega
                  have cM : ∀ W : World, Calls Tryz.prog 24 #[.int .i64 j, .int .i64 i] W fun e w' => e = .returned (.agg #[.int .i64 (-7), .string (mkS j i), .int .i64 0, .int .i64 0, .int .i64 0]) ∧ Below W.heap.size W w' := fun W => mark_any j i W
                  obtain ⟨mv, hmv⟩ : ∃ mv, mkS j i = mv := ⟨_, rfl⟩
                  have hmC : mkC j i = [.int .i64 (-7), .string mv, .int .i64 0, .int .i64 0, .int .i64 0] := by rw [← hmv]; rfl
                  rw [hmv] at cM
                  have Hu := Lib.hid (fun (W : World) (hW : Below wG.heap.size wG W) (c : Nat) u (hu : [Value.int .i64 (-7), .string mv, .int .i64 0, .int .i64 0, .int .i64 0][c]? = some u) => (hW.cell (p := ⟨ub j, i * 5 + c, none⟩) (Hubl.out j hjl)).trans (HU.out j hjl i hil c u (by rw [hmC]; exact hu)))
                  by_cases hin : i < ns j
                  · have hinI : (i : Int) < ns j := by omega
                    obtain ⟨g, hg, _, hgl, _⟩ := Hform.out j hjl (by omega)
                    have Hv := Lib.hid (fun (W : World) (hW : Below wG.heap.size wG W) (c : Nat) u (hu : [Value.int .i64 (-7), .string mv, .int .i64 0, .int .i64 0, .int .i64 0][c]? = some u) => (hW.cell (p := ⟨g, i * 5 + c, none⟩) hgl).trans (HVs.out j hjl g i hg hin c u (by rw [hmC]; exact hu)))
                    have hLj := HLs.out j hjl
                    rw [vAt, hg] at hLj
                    have HLj := Lib.hid hLj
                    clear hg hmv hmC hLj
                    go_wp2_with fail
                    refine (cM _).mono ?_
                    rintro e w5 ⟨rfl, hb5⟩
                    have hb15 := hbi.trans (hb5.mono hbi.size)
                    clear cM hb5 hGi hbj hGj
                    have hbo := hb15.alloc hb15.size (.cells #[.int .i64 (-7), .string mv, .int .i64 0, .int .i64 0, .int .i64 0] 38)
                    have hw := heap_alloc_new w5 (.cells #[.int .i64 (-7), .string mv, .int .i64 0, .int .i64 0, .int .i64 0] 38)
                    go_wp2_with fail
                    obtain ⟨w6, hw6⟩ : ∃ w6, w5.alloc (.cells #[.int .i64 (-7), .string mv, .int .i64 0, .int .i64 0, .int .i64 0] 38) = w6 := ⟨_, rfl⟩
                    rw [hw6] at hbo hw ⊢
                    have T0 : w6.cell? ⟨w5.heap.size, 0, none⟩ = some (.int .i64 (-7)) := cell_of_row _ _ _ _ _ _ hw
                    have T1 : w6.cell? ⟨w5.heap.size, 1, none⟩ = some (.string mv) := cell_of_row _ _ _ _ _ _ hw
                    have T2 : w6.cell? ⟨w5.heap.size, 2, none⟩ = some (.int .i64 0) := cell_of_row _ _ _ _ _ _ hw
                    have T3 : w6.cell? ⟨w5.heap.size, 3, none⟩ = some (.int .i64 0) := cell_of_row _ _ _ _ _ _ hw
                    have T4 : w6.cell? ⟨w5.heap.size, 4, none⟩ = some (.int .i64 0) := cell_of_row _ _ _ _ _ _ hw
                    have G6 := (hbo.cell (p := ⟨gb, j, none⟩) hgbl).trans (HG.out j hjl)
                    have U0 : w6.cell? ⟨ub j, i * 5, none⟩ = some (.int .i64 (-7)) := Hu.out w6 hbo 0 _ rfl
                    have U1 := Hu.out w6 hbo 1 _ rfl
                    have U2 := Hu.out w6 hbo 2 _ rfl
                    have U3 := Hu.out w6 hbo 3 _ rfl
                    have U4 := Hu.out w6 hbo 4 _ rfl
                    have L6 := (hbo.cell (p := ⟨lb, j, none⟩) hlbl).trans HLj.out
                    have V0 : w6.cell? ⟨g, i * 5, none⟩ = some (.int .i64 (-7)) := Hv.out w6 hbo 0 _ rfl
                    have V1 := Hv.out w6 hbo 1 _ rfl
                    have V2 := Hv.out w6 hbo 2 _ rfl
                    have V3 := Hv.out w6 hbo 3 _ rfl
                    have V4 := Hv.out w6 hbo 4 _ rfl
                    have Hbo := Lib.hid hbo
                    clear hw hw6 hbo hb15
                    go_quiet (fail)
                    go_wp2_with fail
                    go_roundw
                    case rel => exact ⟨i + 1, by go_num, by omega, below_drewN Hbo.out _⟩
                    case measure => simp [intOf]; omega
                  · have hinI : decide ((i : Int) < ns j) = false := by simp; omega
                    have hLj := HLs.out j hjl
                    have HLj := Lib.hid hLj
                    clear hmv hmC hLj
                    go_wp2_with fail
                    refine (cM _).mono ?_
                    rintro e w5 ⟨rfl, hb5⟩
                    have hb15 := hbi.trans (hb5.mono hbi.size)
                    clear cM hb5 hGi hbj hGj
                    have hbo := hb15.alloc hb15.size (.cells #[.int .i64 (-7), .string mv, .int .i64 0, .int .i64 0, .int .i64 0] 38)
                    have hw := heap_alloc_new w5 (.cells #[.int .i64 (-7), .string mv, .int .i64 0, .int .i64 0, .int .i64 0] 38)
                    go_wp2_with fail
                    obtain ⟨w6, hw6⟩ : ∃ w6, w5.alloc (.cells #[.int .i64 (-7), .string mv, .int .i64 0, .int .i64 0, .int .i64 0] 38) = w6 := ⟨_, rfl⟩
                    rw [hw6] at hbo hw ⊢
                    have T0 : w6.cell? ⟨w5.heap.size, 0, none⟩ = some (.int .i64 (-7)) := cell_of_row _ _ _ _ _ _ hw
                    have T1 : w6.cell? ⟨w5.heap.size, 1, none⟩ = some (.string mv) := cell_of_row _ _ _ _ _ _ hw
                    have T2 : w6.cell? ⟨w5.heap.size, 2, none⟩ = some (.int .i64 0) := cell_of_row _ _ _ _ _ _ hw
                    have T3 : w6.cell? ⟨w5.heap.size, 3, none⟩ = some (.int .i64 0) := cell_of_row _ _ _ _ _ _ hw
                    have T4 : w6.cell? ⟨w5.heap.size, 4, none⟩ = some (.int .i64 0) := cell_of_row _ _ _ _ _ _ hw
                    have G6 := (hbo.cell (p := ⟨gb, j, none⟩) hgbl).trans (HG.out j hjl)
                    have U0 : w6.cell? ⟨ub j, i * 5, none⟩ = some (.int .i64 (-7)) := Hu.out w6 hbo 0 _ rfl
                    have U1 := Hu.out w6 hbo 1 _ rfl
                    have U2 := Hu.out w6 hbo 2 _ rfl
                    have U3 := Hu.out w6 hbo 3 _ rfl
                    have U4 := Hu.out w6 hbo 4 _ rfl
                    have L6 := (hbo.cell (p := ⟨lb, j, none⟩) hlbl).trans HLj.out
                    have Hbo := Lib.hid hbo
                    clear hw hw6 hbo hb15
                    go_quiet (fail)
                    go_wp2_with fail
                    go_roundw
                    case rel => exact ⟨i + 1, by go_num, by omega, below_drewN Hbo.out _⟩
                    case measure => simp [intOf]; omega
                · have hge2 : (ns j : Int) + 64 ≤ i := by omega
                  go_wp2
                  go_roundw
                  case rel => exact ⟨j + 1, by go_num, by omega, hbi⟩
                  case measure => simp [intOf]; omega
            · have hge2 : (k : Int) ≤ j := by omega
              have Hfin := Lib.hid (Hbel.out.trans (hbj.mono hbs))
              go_wp2
              go_ret
              exact ⟨rfl, Hfin.out⟩
end Go.Proofs.YtekoeobfddfgpaaGreatDoor.C
set_option linter.unusedVariables false
set_option linter.unusedSimpArgs false
namespace Go.Proofs.YtekoeobfddfgpaaGreatDoor.C
open Go Go.RowKit Go.Proofs.YtekoeobfddfgpaaGreatDoor.M Go.Proofs.YtekoeobfddfgpaaGreatDoor.E Go.Proofs.YtekoeobfddfgpaaGreatDoor.PAll Go.Proofs.YtekoeobfddfgpaaGreatDoorW.PrintWords
theorem pieceM_no (t : List UInt8) : (pieceM t).2.2 = 0 ∨ (pieceM t).2.2 = 9 ∨ (pieceM t).2.2 = 10 := by
  cases t with
  | nil => left; rfl
  | cons c r =>
    simp only [pieceM]
    split
    · split
      · left; rfl
      · right; right; rfl
    · split
      · split
        · left; rfl
        · right; left; rfl
      · split <;> (left; rfl)
theorem textM_no (t : List UInt8) : (textM t).2.2 = 0 ∨ (textM t).2.2 = 9 ∨ (textM t).2.2 = 10 := by
  suffices ∀ n (t : List UInt8), t.length ≤ n → ((textM t).2.2 = 0 ∨ (textM t).2.2 = 9 ∨ (textM t).2.2 = 10) from this _ t (Nat.le_refl _)
  intro n
  induction n with
  | zero => intro t h; have : t = [] := List.eq_nil_of_length_eq_zero (by omega); subst this; rw [textM]; simp
  | succ n ih =>
    intro t h
    rw [textM]
    split
    · left; rfl
    · split
      · exact pieceM_no t
      · split
        · left; rfl
        · exact ih (t.drop (pieceM t).2.1) (by rename_i h1 h2 h3; have := List.length_pos_iff.2 h1; simp; omega)
theorem oneM_no {t : List UInt8} {no k : Nat} (h : oneM t = .bad no k) : 1 ≤ no ∧ no ≤ 25 := by
  cases t with
  | nil => simp [oneM] at h
  | cons c r =>
    simp only [oneM] at h
    split at h
    · injection h; omega
    split at h
    · injection h; omega
    split at h
    · split at h
      · injection h; omega
      · cases h
    split at h
    · cases h
    · split at h
      · rename_i h5
        injection h with h6 h7
        have := textM_no (c :: r)
        omega
      · cases h
theorem scanM_no_len : ∀ n (t : List UInt8), t.length ≤ n → (∀ x, (scanM t).2 = some x → 1 ≤ x.1 ∧ x.1 ≤ 25) ∧ (scanM t).1.length ≤ t.length + 1 := by
  intro n
  induction n with
  | zero =>
    intro t h
    have : t = [] := List.eq_nil_of_length_eq_zero (by omega)
    subst this
    rw [scanM_end past_nil]
    exact ⟨by simp, by simp⟩
  | succ n ih =>
    intro t h
    have hpl := past_len t
    by_cases hp : past t = []
    · rw [scanM_end hp]
      exact ⟨by simp, by simp⟩
    · cases ho : oneM (past t) with
      | bad no k =>
        rw [scanM_bad hp ho]
        refine ⟨fun x hx => ?_, by simp⟩
        injection hx with hx
        rw [← hx]
        exact oneM_no ho
      | tok kd x w =>
        rw [scanM_tok hp ho]
        have hw := oneM_w hp (past_head t) ho
        obtain ⟨h1, h2⟩ := ih ((past t).drop w) (by rw [List.length_drop]; omega)
        refine ⟨h1, ?_⟩
        rw [List.length_drop] at h2
        rw [List.length_cons]; omega
theorem scanE_no {l : List UInt8} {x : Nat × Nat × Nat} (h : scanE l = some x) : 1 ≤ x.1 ∧ x.1 ≤ 25 := by
  unfold scanE at h
  split at h
  · injection h with h; rw [← h]; decide
  split at h
  · injection h with h; rw [← h]; decide
  split at h
  · rename_i y hy
    injection h with h
    rw [← h]
    exact (scanM_no_len _ l (Nat.le_refl _)).1 y hy
  · cases h
def scanY (l : List UInt8) : List (Nat × List UInt8 × List UInt8) := match scanE l with
  | none => (scanM l).1
  | some _ => []
def scanV (l : List UInt8) : Value := match scanE l with
  | none => .nilIface
  | some x => flt (x.1 : Nat) (x.2.1 : Nat) (x.2.2 : Nat)
def scanN (l : List UInt8) : Int × Int × Int := match scanE l with
  | none => (0, 0, 0)
  | some x => ((x.1 : Nat), (x.2.1 : Nat), (x.2.2 : Nat))
theorem scanY_len {l : List UInt8} (h : l.length ≤ 20000 ∨ 1048576 < l.length) : (scanY l).length ≤ 20001 := by
  unfold scanY
  rcases h with h | h
  · cases scanE l with
    | none => have := (scanM_no_len _ l (Nat.le_refl _)).2; simp only; omega
    | some x => simp
  · have : scanE l = some (5, 0, 0) := by unfold scanE; rw [if_pos h]
    rw [this]; simp
def TR (W : World) (B : Nat) (v : Value) (l : List UInt8) : Prop := W.ownsRow B 38 5 v (scanY l).length (flatT l (scanY l))
theorem TR.next {W W' : World} {B : Nat} {v : Value} {l : List UInt8} (h : TR W B v l) (hb : Below W.heap.size W W') : TR W' B v l := row_next h hb
theorem scan2_any (s : ByteArray) (w : World) (hs : s.size ≤ 140737488351232) (hT : Lib.Utf8Tabs 2 3 w) :
    Calls Tryz.prog 8 #[.string s] w fun e w' => ∃ v, e = .returned (.tuple #[v, scanV (bl s)]) ∧ Below w.heap.size w w' ∧ TR w' w.heap.size v (bl s) := by
  refine (scan_any s w hs hT).mono ?_
  rintro e w' ⟨hb, hr⟩
  rcases hr with ⟨no, ln, cl, hE, rfl⟩ | ⟨hE, v, rfl, hown⟩
  · refine ⟨.slice none 0 0, ?_, hb, ?_⟩
    · unfold scanV; rw [hE]
    · unfold TR scanY; rw [hE]; exact World.ownsRow_nil _ _ _ _
  · refine ⟨v, ?_, hb, ?_⟩
    · unfold scanV; rw [hE]
    · unfold TR scanY; rw [hE]; exact hown
theorem ref2_any (s : ByteArray) (w : World) (hs : s.size ≤ 140737488351232) :
    Calls Tryz.prog 7 #[.string s] w fun e w' => ∃ v, e = .returned (.tuple #[v, .int .i64 (scanN (bl s)).1, .int .i64 (scanN (bl s)).2.1, .int .i64 (scanN (bl s)).2.2]) ∧ Kd.R k38 38 w' w.heap.size (fun _ => True) v ((scanY (bl s)).map (tokS (bl s))) ∧ Below w.heap.size w w' := by
  have h : Evn (fun k => glossaryref05_Scan.f k s) ((scanY (bl s)).map (tokS (bl s)), (scanN (bl s)).1, (scanN (bl s)).2.1, (scanN (bl s)).2.2) := by
    have h0 := scan_ref hs
    unfold scanY scanN
    cases hE : scanE (bl s) with
    | none => simp only [hE] at h0; exact h0
    | some x => simp only [hE] at h0; exact h0
  obtain ⟨k, hk⟩ := h.ex
  exact glossaryref05_Scan.calls k s _ _ _ _ w hk
theorem at_nil (a b : Int) (w : World) : Calls Tryz.prog 9 #[.nilIface, .int .i64 0, .int .i64 a, .int .i64 b] w fun e w' => e = .returned (.bool true) ∧ Below w.heap.size w w' := by
  go_enter Tryz.func9, Tryz.ntmps9
  go_wp2_with fail
  go_ret
  exact ⟨rfl, Below.refl _ _⟩
theorem num_nil (w : World) : Calls Tryz.prog 10 #[.nilIface] w fun e w' => e = .returned (.int .i64 0) ∧ Below w.heap.size w w' := by
  go_enter Tryz.func10, Tryz.ntmps10
  go_wp2_with fail
  go_ret
  exact ⟨rfl, Below.refl _ _⟩
theorem at_scan (l : List UInt8) (w : World) (hE : HE w) : Calls Tryz.prog 9 #[scanV l, .int .i64 (scanN l).1, .int .i64 (scanN l).2.1, .int .i64 (scanN l).2.2] w fun e w' => e = .returned (.bool true) ∧ Below w.heap.size w w' := by
  unfold scanV scanN
  cases h : scanE l with
  | none => exact at_nil 0 0 w
  | some x =>
    have := scanE_no h
    exact at_fault _ _ _ w (by omega) (by omega) hE
theorem num_scan (l : List UInt8) (w : World) : Calls Tryz.prog 10 #[scanV l] w fun e w' => e = .returned (.int .i64 (scanN l).1) ∧ Below w.heap.size w w' := by
  unfold scanV scanN
  cases h : scanE l with
  | none => exact num_nil w
  | some x =>
    have := scanE_no h
    exact num_fault _ _ _ w (by omega) (by omega)
theorem flatT_len (l : List UInt8) (xs : List (Nat × List UInt8 × List UInt8)) : (flatT l xs).length = xs.length * 5 := by
  induction xs with
  | nil => rfl
  | cons x xs ih =>
    have e : flatT l (x :: xs) = tokV l x ++ flatT l xs := by simp [flatT]
    have hx : (tokV l x).length = 5 := rfl
    rw [e, List.length_append, ih, hx, List.length_cons]; omega
theorem TR.kd {W : World} {B : Nat} {v : Value} {l : List UInt8} (h : TR W B v l) : Kd.R k38 38 W B (fun _ => True) v ((scanY l).map (tokS l)) := by
  refine ⟨fun _ _ => trivial, flatT l (scanY l), ?_, ?_, fun j p hp => ?_⟩
  · rw [List.length_map]; exact h
  · rw [List.length_map]; exact flatT_len l _
  · rw [List.getElem?_map] at hp
    cases hy : (scanY l)[j]? with
    | none => rw [hy] at hp; cases hp
    | some y =>
      rw [hy] at hp
      injection hp with hp
      have hjl : j < (scanY l).length := (List.getElem?_eq_some_iff.1 hy).1
      have e : ((flatT l (scanY l)).drop (j * 5)).take 5 = tokV l y := by
        apply List.ext_getElem?
        intro c
        rcases Nat.lt_or_ge c 5 with hc | hc
        · rw [List.getElem?_take_of_lt hc, List.getElem?_drop, flatT_at hy c hc]
        · have hx : (tokV l y).length = 5 := rfl
          rw [List.getElem?_eq_none (by rw [List.length_take]; omega), List.getElem?_eq_none (by omega)]
      show k38.M W B _ p (((flatT l (scanY l)).drop (j * 5)).take 5)
      rw [e, ← hp]
      exact k38_mkM W B _ (tokS l y)
theorem same_l0 (xs : List S38) (hl : xs.length ≤ 9223372036854775807) : ∀ m i : Nat, i + m = xs.length → glossaryref0_SameTokens.l0 (m + 1) xs xs i = some true
  | 0, i, h => by
    rw [glossaryref0_SameTokens.l0]
    rw [if_neg (by omega)]
  | m + 1, i, h => by
    rw [glossaryref0_SameTokens.l0]
    rw [if_pos (by omega), if_pos (by omega), if_pos (by omega), if_neg (by simp), wn i (by omega)]
    exact same_l0 xs hl m (i + 1) (by omega)
theorem same_ref (xs : List S38) (hl : xs.length ≤ 9223372036854775807) : ∃ k, glossaryref0_SameTokens.f k xs xs = some true :=
  ⟨xs.length + 1, by unfold glossaryref0_SameTokens.f; rw [if_pos rfl]; exact same_l0 xs hl xs.length 0 (by omega)⟩
theorem same_tr {W : World} {B B2 : Nat} {v v2 : Value} {l : List UInt8} (h1 : TR W B v l) (h2 : Kd.R k38 38 W B2 (fun _ => True) v2 ((scanY l).map (tokS l))) :
    Calls Tryz.prog 11 #[v, v2] W fun e w' => e = .returned (.bool true) ∧ Below W.heap.size W w' := by
  obtain ⟨A, c, rfl, hc, hC⟩ := Kd.R_reads h1.kd
  obtain ⟨A2, c2, rfl, hc2, hC2⟩ := Kd.R_reads h2
  obtain ⟨k, hk⟩ := same_ref ((scanY l).map (tokS l)) (by have := hC.2.1; omega)
  exact (glossaryref0_SameTokens.calls k A c _ A2 c2 _ true W hC hc hC2 hc2 hk).mono fun e w' ⟨h3, h4⟩ => ⟨h3, h4.below⟩
theorem TR.slice {W : World} {B : Nat} {v : Value} {l : List UInt8} (h : TR W B v l) : ∃ A c, v = .slice A (scanY l).length c := by
  obtain ⟨A, c, e, _, _⟩ := Kd.R_reads h.kd
  rw [List.length_map] at e
  exact ⟨A, c, e⟩
theorem apart4 {W : World} {va vb vc vd : Value} {la lb lc ld : List UInt8} {B0 S1 S2 S3 : Nat} (ha : TR W B0 va la) (hb : TR W S1 vb lb) (hc : TR W S2 vc lc) (hd : TR W S3 vd ld)
    (h0 : B0 ≤ S1) (h1 : S1 ≤ S2) (h2 : S2 ≤ S3) (h3 : S3 ≤ W.heap.size) (oa : ∀ g, va.ownBlock = some g → g < S1) (ob : ∀ g, vb.ownBlock = some g → g < S2) (oc : ∀ g, vc.ownBlock = some g → g < S3)
    (na : (scanY la).length ≤ 20001) (nb : (scanY lb).length ≤ 20001) (nc : (scanY lc).length ≤ 20001) (nd : (scanY ld).length ≤ 20001) :
    Calls Tryz.prog 12 #[.slice (some ⟨W.heap.size, 0, none⟩) 4 4] (W.alloc (.cells #[va, vb, vc, vd] 24)) fun e w' => e = .returned (.bool true) ∧ Below B0 (W.alloc (.cells #[va, vb, vc, vd] 24)) w' := by
  obtain ⟨A0, c0, rfl⟩ := ha.slice
  obtain ⟨A1, c1, rfl⟩ := hb.slice
  obtain ⟨A2, c2, rfl⟩ := hc.slice
  obtain ⟨A3, c3, rfl⟩ := hd.slice
  have hnew := heap_alloc_new W (.cells #[Value.slice A0 (scanY la).length c0, .slice A1 (scanY lb).length c1, .slice A2 (scanY lc).length c2, .slice A3 (scanY ld).length c3] 24)
  have hal : Below W.heap.size W (W.alloc (.cells #[Value.slice A0 (scanY la).length c0, .slice A1 (scanY lb).length c1, .slice A2 (scanY lc).length c2, .slice A3 (scanY ld).length c3] 24)) := (Below.refl _ W).alloc (Nat.le_refl _) _
  have ha' := ha.next hal
  have hb' := hb.next hal
  have hc' := hc.next hal
  have hd' := hd.next hal
  have la1 : ∀ g, (Value.slice A0 (scanY la).length c0).ownBlock = some g → g < W.heap.size := fun g hg => (ha.lt g hg).2
  have lb1 : ∀ g, (Value.slice A1 (scanY lb).length c1).ownBlock = some g → S1 ≤ g ∧ g < W.heap.size := fun g hg => hb.lt g hg
  have lc1 : ∀ g, (Value.slice A2 (scanY lc).length c2).ownBlock = some g → S2 ≤ g ∧ g < W.heap.size := fun g hg => hc.lt g hg
  have ld1 : ∀ g, (Value.slice A3 (scanY ld).length c3).ownBlock = some g → S3 ≤ g ∧ g < W.heap.size := fun g hg => hd.lt g hg
  obtain ⟨W0, hW0⟩ : ∃ W0, W.alloc (.cells #[Value.slice A0 (scanY la).length c0, .slice A1 (scanY lb).length c1, .slice A2 (scanY lc).length c2, .slice A3 (scanY ld).length c3] 24) = W0 := ⟨_, rfl⟩
  rw [hW0] at hnew hal ha' hb' hc' hd' ⊢
  have hlt : W.heap.size < W0.heap.size := by rw [← hW0]; simp
  refine apart_any W0 B0 W.heap.size 4 (fun j => match j with | 0 => A0 | 1 => A1 | 2 => A2 | _ => A3) (fun j => match j with | 0 => (scanY la).length | 1 => (scanY lb).length | 2 => (scanY lc).length | _ => (scanY ld).length) (fun j => match j with | 0 => c0 | 1 => c1 | 2 => c2 | _ => c3) (fun b => if b < S1 then 0 else if b < S2 then 1 else if b < S3 then 2 else if b < W.heap.size then 3 else 100) (by decide) (by decide) (fun j hj => ?_) ⟨Below.refl _ _, by omega, hlt, fun j hj => ?_, ?_, fun j hj => ?_, fun j hj b hb => ?_⟩
  · match j, hj with
    | 0, _ => simp only; omega
    | 1, _ => simp only; omega
    | 2, _ => simp only; omega
    | 3, _ => simp only; omega
  · match j, hj with
    | 0, _ => exact cell_of_row _ _ _ _ _ _ hnew
    | 1, _ => exact cell_of_row _ _ _ _ _ _ hnew
    | 2, _ => exact cell_of_row _ _ _ _ _ _ hnew
    | 3, _ => exact cell_of_row _ _ _ _ _ _ hnew
  · rw [if_neg (by omega), if_neg (by omega), if_neg (by omega), if_neg (by omega)]
  · match j, hj with
    | 0, _ => exact ⟨_, ha', fun t ht => absurd ht (Nat.not_lt_zero _)⟩
    | 1, _ => exact ⟨_, own_weaken hb' h0, fun t ht => absurd ht (Nat.not_lt_zero _)⟩
    | 2, _ => exact ⟨_, own_weaken hc' (Nat.le_trans h0 h1), fun t ht => absurd ht (Nat.not_lt_zero _)⟩
    | 3, _ => exact ⟨_, own_weaken hd' (Nat.le_trans h0 (Nat.le_trans h1 h2)), fun t ht => absurd ht (Nat.not_lt_zero _)⟩
  · match j, hj with
    | 0, _ =>
      have := oa b hb
      rw [if_pos this]
    | 1, _ =>
      have := ob b hb
      have := lb1 b hb
      rw [if_neg (by omega), if_pos (by omega)]
    | 2, _ =>
      have := oc b hb
      have := lc1 b hb
      rw [if_neg (by omega), if_neg (by omega), if_pos (by omega)]
    | 3, _ =>
      have := ld1 b hb
      rw [if_neg (by omega), if_neg (by omega), if_neg (by omega), if_pos (by omega)]
theorem small_any (s : ByteArray) (w : World) : Calls Tryz.prog 5 #[.string s] w fun e w' => e = .returned (.bool (decide (s.size ≤ 20000 ∨ 1048576 < s.size))) ∧ Below w.heap.size w w' := by
  refine (glossarylaw05_small.calls s (decide (s.size ≤ 20000 ∨ 1048576 < s.size)) w ?_).mono fun e w' ⟨h1, h2⟩ => ⟨h1, h2.below⟩
  unfold glossarylaw05_small.f
  by_cases h : s.size ≤ 20000
  · rw [if_pos (by omega), decide_eq_true (.inl h)]
  · rw [if_neg (by omega)]
    congr 1
    rw [decide_eq_decide]
    omega
end Go.Proofs.YtekoeobfddfgpaaGreatDoor.C
set_option linter.unusedVariables false
set_option linter.unusedSimpArgs false
namespace Go.Proofs.YtekoeobfddfgpaaGreatDoor.C
open Go Go.RowKit Go.Proofs.YtekoeobfddfgpaaGreatDoor.M Go.Proofs.YtekoeobfddfgpaaGreatDoor.E Go.Proofs.YtekoeobfddfgpaaGreatDoor.PAll Go.Proofs.YtekoeobfddfgpaaGreatDoorW.PrintWords
set_option maxHeartbeats 8000000 in
set_option maxRecDepth 100000 in
theorem law_ScanScan (w : World) (hT : Lib.Utf8Tabs 2 3 w) (hE : HE w) (s : ByteArray) (hs : s.size ≤ 140737488351232) (o : ByteArray) (ho : o.size ≤ 140737488351232) :
    Calls Tryz.prog 3 #[.string s, .string o] w fun e w' => e = .returned (.bool true) ∧ Below w.heap.size w w' := by
  have hL : Laid w := ⟨hT, hE⟩
  clear hT hE
  have cS1 := fun W => small_any s W
  have cS2 := fun W => small_any o W
  have cW : ∀ W, Below w.heap.size w W → Calls Tryz.prog 6 #[] W fun e w' => e = .returned (.bool true) ∧ Below W.heap.size W w' := fun W hb => works_any W (hL.below hb).1 (hL.below hb).2
  have CW := Lib.hid cW
  clear cW
  by_cases h1 : s.size ≤ 20000 ∨ 1048576 < s.size
  · by_cases h2 : o.size ≤ 20000 ∨ 1048576 < o.size
    · rw [decide_eq_true h1] at cS1
      rw [decide_eq_true h2] at cS2
      have na : (scanY (bl s)).length ≤ 20001 := scanY_len (by rw [bl_len]; exact h1)
      have nc : (scanY (bl o)).length ≤ 20001 := scanY_len (by rw [bl_len]; exact h2)
      have cR1 := fun W => ref2_any s W hs
      have cR2 := fun W => ref2_any o W ho
      have cA := Lib.hid (fun W (hb : Below w.heap.size w W) => scan2_any s W hs (hL.below hb).1)
      have cB := Lib.hid (fun W (hb : Below w.heap.size w W) => scan2_any o W ho (hL.below hb).1)
      have cAt := Lib.hid (fun W (hb : Below w.heap.size w W) => at_scan (bl s) W (hL.below hb).2)
      have cNu := fun W => num_scan (bl o) W
      obtain ⟨S, hS⟩ : ∃ S, bl s = S := ⟨_, rfl⟩
      obtain ⟨O, hO⟩ : ∃ O, bl o = O := ⟨_, rfl⟩
      rw [hS] at na cR1 cA cAt
      rw [hO] at nc cR2 cB cNu
      clear hS hO h1 h2 hL hs ho
      go_enter Tryz.func3, Tryz.ntmps3
      go_wp2_with fail
      refine (cS1 _).mono ?_
      rintro e x1 ⟨rfl, k1⟩
      clear cS1
      go_wp2_with fail
      refine (cS2 _).mono ?_
      rintro e x2 ⟨rfl, k2⟩
      have b0 := k1.trans (k2.mono k1.size)
      clear cS2 k1 k2
      go_wp2_with fail
      refine (cR1 _).mono ?_
      rintro e w1 ⟨want, rfl, hw1, hb1⟩
      have b1 := b0.trans (hb1.mono b0.size)
      have Hw1 := Lib.hid (fun W (hb : Below w1.heap.size w1 W) => Kd.R_below hw1 hb)
      clear cR1 hw1 hb1
      go_wp2_with fail
      refine (cR2 _).mono ?_
      rintro e w2 ⟨there, rfl, hw2, hb2⟩
      have b12 := hb2
      have b2 := b1.trans (hb2.mono b1.size)
      have Hw2 := Lib.hid (fun W (hb : Below w2.heap.size w2 W) => Kd.R_below hw2 hb)
      clear cR2 hw2 hb2
      go_wp2_with fail
      refine (cA.out _ b2).mono ?_
      rintro e w3 ⟨va, rfl, hb3, ta⟩
      have b3 := b2.trans (hb3.mono b2.size)
      go_wp2_with fail
      refine (cA.out _ b3).mono ?_
      rintro e w4 ⟨vb, rfl, hb4, tb⟩
      have b4 := b3.trans (hb4.mono b3.size)
      go_wp2_with fail
      refine (cB.out _ b4).mono ?_
      rintro e w5 ⟨vc, rfl, hb5, tc⟩
      have b5 := b4.trans (hb5.mono b4.size)
      go_wp2_with fail
      refine (cA.out _ b5).mono ?_
      rintro e w6 ⟨vd, rfl, hb6, td⟩
      have b6 := b5.trans (hb6.mono b5.size)
      have z2 := b2.size
      have z3 := hb3.size
      have z4 := hb4.size
      have z5 := hb5.size
      have z6 := hb6.size
      have c36 : Below w3.heap.size w3 w6 := (hb4.trans (hb5.mono hb4.size)).trans (hb6.mono (Nat.le_trans hb4.size hb5.size))
      have c46 : Below w4.heap.size w4 w6 := hb5.trans (hb6.mono hb5.size)
      have Ta := ta.next c36
      have Tb := tb.next c46
      have Tc := tc.next hb6
      have c26 : Below w2.heap.size w2 w6 := hb3.trans (c36.mono hb3.size)
      have c16 : Below w1.heap.size w1 w6 := b12.trans (c26.mono b12.size)
      have oa : ∀ g, va.ownBlock = some g → g < w3.heap.size := fun g hg => (ta.lt g hg).2
      have ob : ∀ g, vb.ownBlock = some g → g < w4.heap.size := fun g hg => (tb.lt g hg).2
      have oc : ∀ g, vc.ownBlock = some g → g < w5.heap.size := fun g hg => (tc.lt g hg).2
      have Hw1' := Lib.hid (fun W (hb : Below w6.heap.size w6 W) => Hw1.out W (c16.trans (hb.mono c16.size)))
      have Hw2' := Lib.hid (fun W (hb : Below w6.heap.size w6 W) => Hw2.out W (c26.trans (hb.mono c26.size)))
      have HTa := Lib.hid Ta
      have HTb := Lib.hid Tb
      have HTc := Lib.hid Tc
      have HTd := Lib.hid td
      have Hb6 := Lib.hid b6
      have Hoa := Lib.hid oa
      have Hob := Lib.hid ob
      have Hoc := Lib.hid oc
      clear Hw1 Hw2 cA cB ta tb tc td Ta Tb Tc oa ob oc c36 c46 c26 c16 b12 hb3 hb4 hb5 hb6 b0 b1 b2 b3 b4 b5
      obtain ⟨V, hV⟩ : ∃ V, scanV S = V := ⟨_, rfl⟩
      obtain ⟨VO, hVO⟩ : ∃ V, scanV O = V := ⟨_, rfl⟩
      obtain ⟨n1, hn1⟩ : ∃ n, (scanN S).1 = n := ⟨_, rfl⟩
      obtain ⟨n2, hn2⟩ : ∃ n, (scanN S).2.1 = n := ⟨_, rfl⟩
      obtain ⟨n3, hn3⟩ : ∃ n, (scanN S).2.2 = n := ⟨_, rfl⟩
      obtain ⟨m1, hm1⟩ : ∃ n, (scanN O).1 = n := ⟨_, rfl⟩
      rw [hV, hn1, hn2, hn3] at cAt
      rw [hVO, hm1] at cNu
      rw [hV, hVO, hn1, hn2, hn3, hm1]
      clear hV hVO hn1 hn2 hn3 hm1
      go_wp2_with fail
      refine (cAt.out _ b6).mono ?_
      rintro e y1 ⟨rfl, k1⟩
      have q1 := k1
      clear b6
      go_wp2_with fail
      refine (cAt.out _ (Hb6.out.trans (q1.mono Hb6.out.size))).mono ?_
      rintro e y2 ⟨rfl, k2⟩
      have q2 := q1.trans (k2.mono q1.size)
      clear k1 k2 q1
      go_wp2_with fail
      refine (cNu _).mono ?_
      rintro e y3 ⟨rfl, k3⟩
      have q3 := q2.trans (k3.mono q2.size)
      clear k3 q2 cNu
      go_wp2_with fail
      refine (cAt.out _ (Hb6.out.trans (q3.mono Hb6.out.size))).mono ?_
      rintro e y4 ⟨rfl, k4⟩
      have q4 := q3.trans (k4.mono q3.size)
      clear k4 q3 cAt
      go_wp2_with fail
      refine (same_tr (HTa.out.next q4) (Hw1'.out _ q4)).mono ?_
      rintro e y5 ⟨rfl, k5⟩
      have q5 := q4.trans (k5.mono q4.size)
      clear k5 q4
      go_wp2_with fail
      refine (same_tr (HTb.out.next q5) (Hw1'.out _ q5)).mono ?_
      rintro e y6 ⟨rfl, k6⟩
      have q6 := q5.trans (k6.mono q5.size)
      clear k6 q5
      go_wp2_with fail
      refine (same_tr (HTc.out.next q6) (Hw2'.out _ q6)).mono ?_
      rintro e y7 ⟨rfl, k7⟩
      have q7 := q6.trans (k7.mono q6.size)
      clear k7 q6
      go_wp2_with fail
      refine (same_tr (HTd.out.next q7) (Hw1'.out _ q7)).mono ?_
      rintro e y8 ⟨rfl, k8⟩
      have q8 := q7.trans (k8.mono q7.size)
      clear k8 q7
      obtain ⟨aA, aC, rfl⟩ := HTa.out.slice
      obtain ⟨bA, bC, rfl⟩ := HTb.out.slice
      obtain ⟨cA, cC, rfl⟩ := HTc.out.slice
      obtain ⟨dA, dC, rfl⟩ := HTd.out.slice
      have cP := apart4 (HTa.out.next q8) (HTb.out.next q8) (HTc.out.next q8) (HTd.out.next q8) z3 z4 z5 (Nat.le_trans z6 q8.size) Hoa.out Hob.out Hoc.out na na nc na
      have q9 := (Hb6.out.trans (q8.mono Hb6.out.size)).alloc (Nat.le_trans Hb6.out.size q8.size) (.cells #[.slice aA (scanY S).length aC, .slice bA (scanY S).length bC, .slice cA (scanY O).length cC, .slice dA (scanY S).length dC] 24)
      have Hq9 := Lib.hid q9
      clear q9 q8
      go_wp2_with fail
      refine cP.mono ?_
      rintro e y9 ⟨rfl, k9⟩
      have qa := Hq9.out.trans (k9.mono z2)
      have cW1 := CW.out y9 qa
      have Hqa := Lib.hid qa
      clear k9 qa cP
      go_wp2_with fail
      refine cW1.mono ?_
      rintro e ya ⟨rfl, ka⟩
      have Hqb := Lib.hid (Hqa.out.trans (ka.mono Hqa.out.size))
      clear ka cW1
      go_wp2_with fail
      go_ret
      exact ⟨rfl, Hqb.out⟩
    · rw [decide_eq_true h1] at cS1
      rw [decide_eq_false h2] at cS2
      go_enter Tryz.func3, Tryz.ntmps3
      go_wp2_with fail
      refine (cS1 _).mono ?_
      rintro e x1 ⟨rfl, k1⟩
      clear cS1
      go_wp2_with fail
      refine (cS2 _).mono ?_
      rintro e x2 ⟨rfl, k2⟩
      have b0 := k1.trans (k2.mono k1.size)
      have cW1 := CW.out x2 b0
      have Hb := Lib.hid b0
      clear cS2 k1 k2 b0
      go_wp2_with fail
      refine cW1.mono ?_
      rintro e ya ⟨rfl, ka⟩
      have Hqb := Lib.hid (Hb.out.trans (ka.mono Hb.out.size))
      clear ka
      go_wp2_with fail
      go_ret
      exact ⟨rfl, Hqb.out⟩
  · rw [decide_eq_false h1] at cS1
    go_enter Tryz.func3, Tryz.ntmps3
    go_wp2_with fail
    refine (cS1 _).mono ?_
    rintro e x1 ⟨rfl, k1⟩
    have cW1 := CW.out x1 k1
    have Hb := Lib.hid k1
    clear cS1 k1
    go_wp2_with fail
    refine cW1.mono ?_
    rintro e ya ⟨rfl, ka⟩
    have Hqb := Lib.hid (Hb.out.trans (ka.mono Hb.out.size))
    clear ka
    go_wp2_with fail
    go_ret
    exact ⟨rfl, Hqb.out⟩
end Go.Proofs.YtekoeobfddfgpaaGreatDoor.C
set_option linter.unusedVariables false
set_option linter.unusedSimpArgs false
namespace Go.Proofs.YtekoeobfddfgpaaGreatDoor.C
open Go Go.RowKit Go.Shelf Go.Proofs.YtekoeobfddfgpaaGreatDoor.M Go.Proofs.YtekoeobfddfgpaaGreatDoor.Z
theorem plc_bound (p : Nat × Nat) (q : List (List UInt8)) : (plc p q).2 ≤ p.2 + q.length + 1 := by
  induction q using snoc_rec with
  | h0 => simp [plc_nil]
  | h1 l x ih => rw [plc_snoc]; split <;> simp <;> omega
set_option maxHeartbeats 4000000 in
set_option maxRecDepth 100000 in
theorem law_ScanPlaces (w : World) (hT : Lib.Utf8Tabs 2 3 w) (hE : HE w) (s : ByteArray) (hs : s.size ≤ 140737488351232) :
    Calls Tryz.prog 30 #[.string s] w fun e w' => e = .returned (.bool true) ∧ Below w.heap.size w w' := by
  have hL : Laid w := ⟨hT, hE⟩
  clear hT hE
  have cS := scan_any s w hs hL.1
  have cW : ∀ W, Below w.heap.size w W → Calls Tryz.prog 6 #[] W fun e w' => e = .returned (.bool true) ∧ Below W.heap.size W w' := fun W hb => works_any W (hL.below hb).1 (hL.below hb).2
  have hl := bl_len s
  clear hL
  go_enter Tryz.func30, Tryz.ntmps30
  go_wp2_with fail
  refine cS.mono ?_
  rintro e w1 ⟨hb1, hr⟩
  clear cS
  have cW1 := cW w1 hb1
  rcases hr with ⟨no, ln, cl, hr, rfl⟩ | ⟨hE, v, rfl, hown⟩
  · have HB := Lib.hid hb1
    clear hr hb1 cW
    unfold Go.Proofs.YtekoeobfddfgpaaGreatDoor.E.flt
    go_wp2_with fail
    refine cW1.mono ?_
    rintro e w2 ⟨rfl, hb2⟩
    have HC := Lib.hid (HB.out.trans (hb2.mono HB.out.size))
    go_wp2_with fail
    go_ret
    exact ⟨rfl, HC.out⟩
  · have hsm : (scanM (bl s)).2 = none := by
      unfold scanE at hE
      split at hE
      · cases hE
      split at hE
      · cases hE
      cases h : (scanM (bl s)).2 with
      | none => rfl
      | some x => rw [h] at hE; cases hE
    have hS := stand hsm
    obtain ⟨xs, hxs⟩ : ∃ xs, (scanM (bl s)).1 = xs := ⟨_, rfl⟩
    rw [hxs] at hown hS
    clear hsm hE hxs
    obtain ⟨g, cap, hK⟩ := toks_of hown hS.ne
    clear hown
    obtain ⟨n, hn⟩ : ∃ n, xs.length = n := ⟨_, rfl⟩
    have hv := hK.v
    rw [hn] at hv
    obtain rfl := hv
    by_cases h2 : 20000 < s.size
    · have i1 : (20000 : Int) < (s.size : Int) := by omega
      have HB := Lib.hid hb1
      clear hb1 cW hK hS h2
      go_wp2_with fail
      refine cW1.mono ?_
      rintro e w2 ⟨rfl, hb2⟩
      have HC := Lib.hid (HB.out.trans (hb2.mono HB.out.size))
      go_wp2_with fail
      go_ret
      exact ⟨rfl, HC.out⟩
    · have i1 : (s.size : Int) ≤ 20000 := by omega
      have hK' := Lib.hid hK
      have hS' := Lib.hid hS
      have hb1' := Lib.hid hb1
      have cWh := Lib.hid cW
      have hln : n ≤ 9223372036854775807 := hn ▸ hK.len
      have hpos : 0 < n := by rw [← hn]; exact List.length_pos_iff.2 hS.ne
      clear hb1 hK hS h2 cW1 cW
      go_wp2_with fail
      go_loopw [5] (fun iv wo => ∃ i : Nat, iv = .int .i64 i ∧ i ≤ n ∧ Below w1.heap.size w1 wo) (fun v _ => n - (intOf v).toNat)
      case atStart => exact ⟨0, rfl, Nat.zero_le _, Below.refl _ _⟩
      case round =>
        obtain ⟨i, rfl, hi, hbw⟩ := hrel
        obtain ⟨wo, rfl⟩ : ∃ wo, wo = wr := ⟨wr, rfl⟩
        have hK := hK'.out.below hbw
        by_cases hlt : i < n
        · obtain ⟨y, hy⟩ : ∃ y, xs[i]? = some y := ⟨_, List.getElem?_eq_getElem (by omega)⟩
          obtain ⟨hle, hdr⟩ := hS'.out.le i y hy
          obtain ⟨A, hA⟩ : ∃ A, (bl s).length - y.2.2.length = A := ⟨_, rfl⟩
          have hAs : A ≤ s.size := by omega
          have c0 := hK.c0 i y hy
          have c1 := hK.c1 i y hy
          have c2 := hK.c2 i y hy
          have c3 := hK.c3 i y hy
          have c4 := hK.c4 i y hy
          rw [hA] at c4
          have hlti : (i : Int) < n := by omega
          obtain ⟨hd, hhd⟩ : ∃ hd, s.extract 0 A = hd := ⟨_, rfl⟩
          have hbh : bl hd = (bl s).take A := by rw [← hhd, extract_ba (by omega), bl_ba]; simp
          have hhs : hd.size = A := by rw [← bl_len, hbh, List.length_take]; omega
          have hhb : hd.size ≤ 20000 := by omega
          have hcol := place_col (bl s) y.2.2
          have hlin := place_line (bl s) y.2.2
          rw [hA, ← hbh] at hcol hlin
          obtain ⟨C, hC⟩ : ∃ C, (bl hd).count 10 = C := ⟨_, rfl⟩
          have hCb : C ≤ 20000 := by have : (bl hd).count 10 ≤ (bl hd).length := List.count_le_length; rw [bl_len] at this; omega
          rw [hC] at hlin
          rw [hlin, show ((C + 1 : Nat) : Int) = (C : Int) + 1 by omega] at c2
          obtain ⟨K, hKe⟩ : ∃ K, (place (bl s) y.2.2).2 = K := ⟨_, rfl⟩
          rw [hKe] at hcol c3
          have cE := fun W => ended_any hd W (by omega)
          rw [hC] at cE
          have hcol' := Lib.hid hcol
          obtain ⟨tx, htx⟩ : ∃ tx, ba y.2.1 = tx := ⟨_, rfl⟩
          rw [htx] at c1
          have hsg : y.1 = 2 → tx.size ≤ s.size - A ∧ s.extract A (A + tx.size) = tx := by
            intro h2
            obtain ⟨q1, q2⟩ := hS'.out.sign i y hy h2
            have htl : tx.size = y.2.1.length := by rw [← bl_len, ← htx, bl_ba]
            refine ⟨by omega, ?_⟩
            rw [extract_ba (by omega), List.drop_take, show (bl s).drop A = y.2.2 by rw [← hA]; exact hdr.symm, show A + tx.size - A = y.2.1.length by omega, ← q2, htx]
          have hsg' := Lib.hid hsg
          have hbs := hbw.size
          have hprev : 0 < i → ∃ A' : Nat, wo.cell? ⟨g, (i - 1) * 5 + 4, none⟩ = some (.int .i64 (A' : Nat)) ∧ (A' : Int) < A := by
            intro h0
            obtain ⟨y', hy'⟩ : ∃ y', xs[i - 1]? = some y' := ⟨_, List.getElem?_eq_getElem (by omega)⟩
            have q := hS'.out.lt (i - 1) y' y hy' (by rw [Nat.sub_add_cancel h0]; exact hy)
            have ql := (hS'.out.le (i - 1) y' hy').1
            refine ⟨_, hK.c4 (i - 1) y' hy', by omega⟩
          have hbw' := Lib.hid hbw
          have hK2 := Lib.hid hK
          clear hK hbw hcol hC hhs hbh hlin hKe hsg htx hdr hle hy hA
          rcases Nat.eq_zero_or_pos i with h0 | h0
          all_goals first
            | (have hig : (i : Int) ≤ 0 := by omega
               clear hprev h0
               go_wp2_with fail)
            | (obtain ⟨A', hc4, hAA⟩ := hprev h0
               have hig : 0 < (i : Int) := by omega
               have hi0 : 0 ≤ (i : Int) - 1 := by omega
               have hi1 : (i : Int) - 1 < n := by omega
               clear hprev
               go_wp2_with fail
               clear hc4 hAA hi0 hi1 hig)
          all_goals (
            try simp only [hhd]
            go_loopw [8] (fun cv wr2 => ∃ (pos : Nat) (pre : List (List UInt8)), cv = .int .i64 ((plc (1, 1) pre).2 : Nat) ∧ Hid (sfx (bl hd) = pre ++ sfx ((bl hd).drop pos)) ∧ wr2.heap[wo.heap.size]? = some (.stringIter hd pos) ∧ Below wo.heap.size wo wr2) (fun _ wr2 => hd.size - wr2.iterPos wo.heap.size)
            case atStart =>
              refine ⟨0, [], rfl, by simp [Hid], ?_, ?_⟩
              · simpa using World.iter_heap wo hd 0
              · exact (Below.refl _ wo).alloc (Nat.le_refl _) (.stringIter hd 0)
            case round =>
              obtain ⟨pos, pre, rfl, hpre, hit, hbw3⟩ := hrel
              have hpl : pre.length ≤ 20000 := by
                have := congrArg List.length hpre.out
                have h2 := sfx_len (bl hd)
                rw [List.length_append] at this
                rw [bl_len] at h2
                omega
              have hKb := plc_bound (1, 1) pre
              obtain ⟨k2, hk2⟩ : ∃ k2, (plc (1, 1) pre).2 = k2 := ⟨_, rfl⟩
              have hk2' := Lib.hid hk2
              rw [hk2] at hKb ⊢
              by_cases hp : pos < hd.size
              · obtain ⟨t, ht⟩ : ∃ t, (bl hd).drop pos = t := ⟨_, rfl⟩
                have hne : t ≠ [] := by rw [← ht]; exact bl_nonempty hp
                have hdc : Utf8.decode hd pos = (dc t, dw t) := by rw [← ht]; exact (Lib.decodeL_drop hd pos).symm
                have hnx : ∀ ty, (Instr.next (.pointer (some ⟨wo.heap.size, 0, none⟩)) true ty).run Tryz.prog wr = .ok (.tuple #[.bool true, .int .i64 pos, .int .i32 (dc t : Nat)]) (wr.iterAt wo.heap.size hd (pos + dw t)) := fun ty => by
                  have := Lib.run_next_any_at (P := Tryz.prog) wr wo.heap.size hd pos ty hit hp
                  rw [hdc] at this
                  exact this
                have hw1 := dw_pos hne
                have hpre2 : Hid (sfx (bl hd) = (pre ++ [t]) ++ sfx ((bl hd).drop (pos + dw t))) := by
                  show sfx (bl hd) = _
                  rw [← List.drop_drop, ht, hpre.out, ht, sfx_cons hne]; simp
                have Hit2 := Lib.hid (Lib.iterAt_heap wr wo.heap.size hd pos (pos + dw t) hit)
                have hbw2 : Below wo.heap.size wo (wr.iterAt wo.heap.size hd (pos + dw t)) := Lib.below_iterAt hbw3 (Nat.le_refl _) hd _
                have Hhit := Lib.hid hit
                have eq1 := plc_snoc (1, 1) pre t
                rw [hk2] at eq1
                have Hm := Lib.hid (show hd.size - (pos + dw t) < hd.size - pos by omega)
                have HB2 := Lib.hid hbw2
                by_cases hc : dc t = 10
                · have t1 : (((dc t : Nat) : Int) == 10) = true := by rw [hc]; rfl
                  rw [if_pos hc] at eq1
                  have E1 := Lib.hid eq1
                  clear hdc hit ht eq1 hne hc hbw2 hbw3 hk2 hpl hw1
                  go_wp2
                  go_roundw
                  case rel => exact ⟨pos + dw t, pre ++ [t], by rw [E1.out]; rfl, hpre2, Hit2.out, HB2.out⟩
                  case measure =>
                    simp only [World.iterPos, Hit2.out, Hhit.out]
                    exact Hm.out
                · have t1 : (((dc t : Nat) : Int) == 10) = false := by simp; omega
                  rw [if_neg hc] at eq1
                  have E1 := Lib.hid eq1
                  clear hdc hit ht eq1 hne hc hbw2 hbw3 hk2 hw1
                  go_wp2
                  go_roundw
                  case rel => exact ⟨pos + dw t, pre ++ [t], by rw [E1.out]; go_num, hpre2, Hit2.out, HB2.out⟩
                  case measure =>
                    simp only [World.iterPos, Hit2.out, Hhit.out]
                    exact Hm.out
              · have hnx : ∀ ty, (Instr.next (.pointer (some ⟨wo.heap.size, 0, none⟩)) true ty).run Tryz.prog wr = _ := fun ty => Lib.run_next_end_at wr wo.heap.size hd pos ty hit hp
                have hk : k2 = K := by
                  rw [← hk2, hcol'.out, hpre.out, List.drop_of_length_le (by rw [bl_len]; omega), sfx_nil, List.append_nil]
                subst hk
                have d1 := (hbw3.cell (p := ⟨g, i * 5, none⟩) (hK2.out.lt)).trans c0
                have d1' := (hbw3.cell (p := ⟨g, i * 5 + 1, none⟩) (hK2.out.lt)).trans c1
                have d2 := (hbw3.cell (p := ⟨g, i * 5 + 2, none⟩) (hK2.out.lt)).trans c2
                have d3 := (hbw3.cell (p := ⟨g, i * 5 + 3, none⟩) (hK2.out.lt)).trans c3
                have HB3 := Lib.hid (hbw'.out.trans (hbw3.mono hbs))
                have hbe := hbw3.size
                clear c0 c1 c2 c3 c4 hit hbw3 hpre hk2 hKb hpl
                have hwC : IntKind.i64.wrap ((C : Int) + 1) = (C : Int) + 1 := wrap_in (by omega) (by omega)
                by_cases hk2 : y.1 = 2
                · obtain ⟨q1, q2⟩ := hsg'.out hk2
                  have t0 : (((y.1 : Nat) : Int) == 2) = true := by rw [hk2]; rfl
                  have q1i : (tx.size : Int) ≤ (s.size : Int) - A := by omega
                  have q3 : ((A : Int) + tx.size).toNat = A + tx.size := by omega
                  have q4 : (A : Int) + tx.size ≤ s.size := by omega
                  have q5 : IntKind.i64.wrap ((A : Int) + tx.size) = (A : Int) + tx.size := wrap_in (by omega) (by omega)
                  have q8 : (0 : Int) ≤ (A : Int) + tx.size := by omega
                  have q9 : (A : Int) ≤ (A : Int) + tx.size := by omega
                  have q6 : IntKind.i64.wrap ((s.size : Int) - A) = (s.size : Int) - A := wrap_in (by omega) (by omega)
                  clear hk2
                  go_wp2_with fail
                  go_quiet ((go_at_call 61; exact Calls.quiet_of_same (cE _)))
                  go_wp2_with fail
                  go_quiet (fail)
                  go_wp2_with fail
                  go_roundw
                  case rel => exact ⟨i + 1, by go_num, by omega, below_drewN HB3.out _⟩
                  case measure => simp [intOf]; omega
                · have t0 : (((y.1 : Nat) : Int) == 2) = false := by simp; omega
                  clear hk2
                  go_wp2_with fail
                  go_quiet ((go_at_call 61; exact Calls.quiet_of_same (cE _)))
                  go_wp2_with fail
                  go_quiet (fail)
                  go_wp2_with fail
                  go_roundw
                  case rel => exact ⟨i + 1, by go_num, by omega, below_drewN HB3.out _⟩
                  case measure => simp [intOf]; omega
            )
        · obtain rfl : i = n := by omega
          obtain ⟨y, hy⟩ : ∃ y, xs[i - 1]? = some y := ⟨_, List.getElem?_eq_getElem (by omega)⟩
          have hla := hS'.out.last
          rw [List.getLast?_eq_getElem?, hn, hy] at hla
          obtain rfl := Option.some.inj hla
          have e0 : wo.cell? ⟨g, (i - 1) * 5, none⟩ = some (.int .i64 0) := hK.c0 (i - 1) _ hy
          have e4 := hK.c4 (i - 1) _ hy
          simp only [List.length_nil, Nat.sub_zero, hl] at e4
          have hig : (0 : Int) < (i : Int) := by omega
          have hi0 : 0 ≤ (i : Int) - 1 := by omega
          have hi1 : (i : Int) - 1 < i := by omega
          have HB4 := Lib.hid (hb1'.out.trans (hbw.mono hb1'.out.size))
          have cW2 := cWh.out wo HB4.out
          clear hy hK hbw hla hlt
          go_wp2_with fail
          all_goals first | (refine cW2.mono ?_) | skip
          rintro e w3 ⟨rfl, hb3⟩
          have HB5 := Lib.hid (HB4.out.trans (hb3.mono HB4.out.size))
          clear cW2 hb3
          go_wp2_with fail
          go_ret
          exact ⟨rfl, HB5.out⟩
end Go.Proofs.YtekoeobfddfgpaaGreatDoor.C
set_option linter.unusedVariables false
set_option linter.unusedSimpArgs false
namespace Go.Proofs.YtekoeobfddfgpaaGreatDoor.C
open Go Go.RowKit Go.Shelf Go.Proofs.YtekoeobfddfgpaaGreatDoor.M Go.Proofs.YtekoeobfddfgpaaGreatDoor.Z Go.Proofs.YtekoeobfddfgpaaGreatDoor.PAll Go.Proofs.YtekoeobfddfgpaaGreatDoorW.PrintWords
theorem pick_less (a : Int) (n : Nat) (h0 : 0 < n) (hn : n ≤ 9223372036854775807) : ∃ r : Nat, r < n ∧ glossarykit_Pick.f a (n : Int) = some (r : Int) := by
  have h1 := Int.tmod_lt_of_pos a (b := (n : Int)) (by omega)
  have h2 := Int.lt_tmod_of_pos a (b := (n : Int)) (by omega)
  unfold glossarykit_Pick.f
  rw [if_neg (by omega), if_neg (by omega)]
  by_cases h : Int.tmod a (n : Int) < 0
  · rw [if_pos h, w64i (by omega) (by omega)]
    exact ⟨(Int.tmod a (n : Int) + (n : Int)).toNat, by omega, by rw [Int.toNat_of_nonneg (by omega)]⟩
  · rw [if_neg h]
    exact ⟨(Int.tmod a (n : Int)).toNat, by omega, by rw [Int.toNat_of_nonneg (by omega)]⟩
theorem scan_ok {l : List UInt8} (h : scanE l = none) : (scanM l).2 = none ∧ l.length ≤ 1048576 := by
  unfold scanE at h
  split at h
  · cases h
  split at h
  · cases h
  refine ⟨?_, by omega⟩
  cases h' : (scanM l).2 with
  | none => rfl
  | some x => rw [h'] at h; cases h
theorem scanE_ok {l : List UInt8} (h1 : l.length ≤ 1048576) (h2 : l.count 10 ≤ 65535) (h : (scanM l).2 = none) : scanE l = none := by
  have : linesN l ≤ 65536 := by unfold linesN; split <;> omega
  unfold scanE
  rw [if_neg (by omega), if_neg (by omega), h]
theorem bl_app (s t : ByteArray) : bl (s ++ t) = bl s ++ bl t := by simp [bl, ByteArray.toList_data_append]
def gapL : List UInt8 := [32, 9, 35, 60, 39, 92, 91, 195, 169, 255, 13]
theorem gapL_gap : Gap gapL := by
  refine ⟨by decide, fun y => ?_⟩
  show past (32 :: 9 :: 35 :: ([60, 39, 92, 91, 195, 169, 255, 13] ++ 10 :: y)) = past y
  rw [past_blk (by decide), past_blk (by decide), past_note, line_all (by decide), List.dropWhile_cons]
  simp only [bne_self_eq_false, Bool.false_eq_true, if_false]
  exact past_blk (by decide)
set_option maxHeartbeats 4000000 in
set_option maxRecDepth 100000 in
theorem law_ScanNoted (w : World) (hT : Lib.Utf8Tabs 2 3 w) (hE : HE w) (s : ByteArray) (hs : s.size ≤ 140737488351232) (n : Int) (hn : (Lit.int .i64 n).wf = true) :
    Calls Tryz.prog 29 #[.string s, .int .i64 n] w fun e w' => e = .returned (.bool true) ∧ Below w.heap.size w w' := by
  have hL : Laid w := ⟨hT, hE⟩
  clear hT hE
  have cS := scan_any s w hs hL.1
  have cS3 : ∀ W, Below w.heap.size w W → ∀ r : ByteArray, r.size ≤ 140737488351232 → Calls Tryz.prog 8 #[.string r] W (ScanP r W) := fun W hb r hr => scan_any r W hr (hL.below hb).1
  have cW : ∀ W, Below w.heap.size w W → Calls Tryz.prog 6 #[] W fun e w' => e = .returned (.bool true) ∧ Below W.heap.size W w' := fun W hb => works_any W (hL.below hb).1 (hL.below hb).2
  have cE1 := fun W => ended_any s W hs
  have hl := bl_len s
  clear hL
  go_enter Tryz.func29, Tryz.ntmps29
  go_wp2_with fail
  refine cS.mono ?_
  rintro e w1 ⟨hb1, hr⟩
  clear cS
  have cW' := Lib.hid cW
  have cW1 := cW w1 hb1
  have hb1' := Lib.hid hb1
  have cS3' := Lib.hid cS3
  clear cW cS3
  rcases hr with ⟨no, ln, cl, hr, rfl⟩ | ⟨hE1, v, rfl, hown⟩
  · clear hr hb1
    unfold Go.Proofs.YtekoeobfddfgpaaGreatDoor.E.flt
    go_wp2_with fail
    refine cW1.mono ?_
    rintro e w3 ⟨rfl, hb3⟩
    have HC := Lib.hid (hb1'.out.trans (hb3.mono hb1'.out.size))
    go_wp2_with fail
    go_ret
    exact ⟨rfl, HC.out⟩
  obtain ⟨hm1, hz1⟩ := scan_ok hE1
  have hS1 := stand hm1
  have hN := scanM_noted gapL_gap ⟨32, _, rfl, by decide⟩ _ (bl s) (Nat.le_refl _) hm1
  obtain ⟨xs, hxs⟩ : ∃ xs, (scanM (bl s)).1 = xs := ⟨_, rfl⟩
  rw [hxs] at hown hS1 hN
  obtain ⟨g1, cap1, hK1⟩ := toks_of hown hS1.ne
  obtain ⟨n1, hn1⟩ : ∃ n, xs.length = n := ⟨_, rfl⟩
  have hv1 := hK1.v
  rw [hn1] at hv1
  obtain rfl := hv1
  have hp1 : 0 < n1 := by rw [← hn1]; exact List.length_pos_iff.2 hS1.ne
  have hln1 : n1 ≤ 9223372036854775807 := hn1 ▸ hK1.len
  have hK1' := Lib.hid hK1
  have hS1' := Lib.hid hS1
  have hN' := Lib.hid hN
  have hn1' := Lib.hid hn1
  have hl' := Lib.hid hl
  obtain ⟨C1, hC1⟩ : ∃ C, (bl s).count 10 = C := ⟨_, rfl⟩
  rw [hC1] at cE1
  have hC1' := Lib.hid hC1
  have hC1l : C1 ≤ s.size := by rw [← hC1, ← hl]; exact List.count_le_length
  have hs2 : s.size ≤ 1048576 := by omega
  clear hE1 hown hK1 hS1 hN hm1 hz1 hb1 hxs hC1 hl hn1
  by_cases h5 : 500000 < s.size
  · have i5 : (500000 : Int) < (s.size : Int) := by omega
    clear h5
    go_wp2_with fail
    refine cW1.mono ?_
    rintro e w3 ⟨rfl, hb3⟩
    have HC := Lib.hid (hb1'.out.trans (hb3.mono hb1'.out.size))
    go_wp2_with fail
    go_ret
    exact ⟨rfl, HC.out⟩
  have i5 : (s.size : Int) ≤ 500000 := by omega
  by_cases h6 : 60000 < C1
  · have i6 : (60000 : Int) < (C1 : Int) := by omega
    clear h5 h6
    go_wp2_with fail
    refine (cE1 _).mono ?_
    rintro e w3 ⟨rfl, rfl⟩
    go_wp2_with fail
    refine cW1.mono ?_
    rintro e w3 ⟨rfl, hb3⟩
    have HC := Lib.hid (hb1'.out.trans (hb3.mono hb1'.out.size))
    go_wp2_with fail
    go_ret
    exact ⟨rfl, HC.out⟩
  have i6 : (C1 : Int) ≤ 60000 := by omega
  obtain ⟨p, hp, hpf⟩ := pick_less n n1 hp1 hln1
  have cP := fun W => glossarykit_Pick.calls n (n1 : Int) (p : Int) W hpf
  have hpi : (p : Int) < (n1 : Int) := by omega
  have z0 : ((n1 : Int) == 0) = false := by simp; omega
  obtain ⟨y, hy⟩ : ∃ y, xs[p]? = some y := ⟨_, List.getElem?_eq_getElem (by rw [hn1'.out]; exact hp)⟩
  obtain ⟨hle, hdr⟩ := hS1'.out.le p y hy
  have hNy := hN'.out p y hy
  obtain ⟨A, hA⟩ : ∃ A, (bl s).length - y.2.2.length = A := ⟨_, rfl⟩
  rw [hA] at hNy hdr
  have hAs : A ≤ s.size := by rw [← hl'.out]; omega
  have c4 : ∀ k, (w1.drewN k).cell? ⟨g1, p * 5 + 4, none⟩ = some (.int .i64 (A : Nat)) := fun k => by
    have := (hK1'.out.below (below_drewN (Below.refl _ _) k)).c4 p y hy
    rwa [hA] at this
  obtain ⟨r, hr⟩ : ∃ r : ByteArray, s.extract 0 A ++ ⟨#[32, 9, 35, 60, 39, 92, 91, 195, 169, 255, 13, 10, 32]⟩ ++ s.extract A s.size = r := ⟨_, rfl⟩
  have hbr : bl r = (bl s).take A ++ (gapL ++ 10 :: 32 :: y.2.2) := by
    rw [← hr, bl_app, bl_app, bl_extract, hdr, extract_ba hAs, bl_ba, List.drop_zero, List.append_assoc]
    rfl
  have hrs : r.size = s.size + 13 := by
    rw [← bl_len, hbr, List.length_append, List.length_append, List.length_take, hl'.out, Nat.min_eq_left hAs, List.length_cons, List.length_cons, show gapL.length = 11 from rfl]
    have := hl'.out
    omega
  have hEr : scanE (bl r) = none := by
    refine scanE_ok (by rw [bl_len]; omega) ?_ (by rw [hbr]; exact hNy.1)
    have h1 : ((bl s).take A).count 10 + y.2.2.count 10 = C1 := by
      rw [hdr, ← List.count_append, List.take_append_drop]
      exact hC1'.out
    rw [hbr, List.count_append, List.count_append, List.count_cons, List.count_cons, show gapL.count 10 = 0 by decide]
    simp
    omega
  obtain ⟨ys, hys⟩ : ∃ ys, (scanM (bl r)).1 = ys := ⟨_, rfl⟩
  have hkt : ys.map kt = xs.map kt := by rw [← hys, hbr]; exact hNy.2
  have hyl : ys.length = n1 := by
    have := congrArg List.length hkt
    rw [List.length_map, List.length_map, hn1'.out] at this
    exact this
  have hynil : ys ≠ [] := by intro e; rw [e] at hyl; simp at hyl; omega
  have cR : ∀ W, Below w1.heap.size w1 W → Calls Tryz.prog 8 #[.string r] W (fun e w' => Below W.heap.size W w' ∧ ∃ g cap, e = .returned (.tuple #[.slice (some ⟨g, 0, none⟩) n1 cap, .nilIface]) ∧ Toks w' W.heap.size (.slice (some ⟨g, 0, none⟩) n1 cap) (bl r) ys g cap) := by
    intro W hb
    refine (cS3'.out W (hb1'.out.trans (hb.mono hb1'.out.size)) r (by omega)).mono ?_
    rintro e w' ⟨hb2, hr⟩
    rw [hEr] at hr
    rcases hr with ⟨no, ln, cl, hr, _⟩ | ⟨_, v, rfl, hown⟩
    · cases hr
    rw [hys] at hown
    obtain ⟨g, cap, hK⟩ := toks_of hown hynil
    have hv := hK.v
    rw [hyl] at hv
    obtain rfl := hv
    exact ⟨hb2, g, cap, rfl, hK⟩
  have HKT := Lib.hid hkt
  have HYL := Lib.hid hyl
  clear hEr hbr hNy hle hdr hy hpf hp h5 h6 hA hys hkt hyl hynil
  go_wp2_with fail
  refine (cE1 _).mono ?_
  rintro e w3 ⟨rfl, rfl⟩
  go_wp2_with fail
  refine (cP _).mono ?_
  rintro e w4 ⟨rfl, ⟨⟨k, rfl⟩⟩⟩
  have c4' := c4 k
  clear c4
  go_wp2_with fail
  go_region_with ((refine (cR _ (by first | exact below_drewN (Below.refl _ _) _ | exact (below_drewN (Below.refl _ _) _).drew)).mono ?_; rintro e w5 ⟨hb5, g, cap, rfl, hK⟩))
  all_goals
    have h0 : ∀ k, Below w3.heap.size w3 ((w3.drewN k).drew) := fun k => (below_drewN (Below.refl _ _) k).drew
    have hB15 : Below w3.heap.size w3 w5 := (h0 _).trans (hb5.mono (h0 _).size)
    have hB15' := Lib.hid hB15
    have hK' := Lib.hid hK
    clear hb5 hB15 hK c4' cR h0
    go_wp2_with fail
    go_loopw [9] (fun iv wo => ∃ i : Nat, iv = .int .i64 i ∧ i ≤ n1 ∧ Below w5.heap.size w5 wo) (fun v _ => n1 - (intOf v).toNat)
    case atStart => exact ⟨0, rfl, Nat.zero_le _, Below.refl _ _⟩
    case round =>
      obtain ⟨i, rfl, hi, hbw⟩ := hrel
      have HB4 := Lib.hid (hb1'.out.trans ((hB15'.out.trans (hbw.mono hB15'.out.size)).mono hb1'.out.size))
      by_cases hlt : i < n1
      · have hlti : (i : Int) < n1 := by omega
        obtain ⟨y1, hy1⟩ : ∃ y, xs[i]? = some y := ⟨_, List.getElem?_eq_getElem (by rw [hn1'.out]; exact hlt)⟩
        obtain ⟨y2, hy2⟩ : ∃ y, ys[i]? = some y := ⟨_, List.getElem?_eq_getElem (by rw [HYL.out]; exact hlt)⟩
        have hk : kt y2 = kt y1 := by
          have := congrArg (fun l => l[i]?) HKT.out
          simp only [List.getElem?_map, hy1, hy2, Option.map_some, Option.some.injEq] at this
          exact this
        have hk1 : y2.1 = y1.1 := by show (kt y2).1 = (kt y1).1; rw [hk]
        have hk2 : y2.2.1 = y1.2.1 := by show (kt y2).2 = (kt y1).2; rw [hk]
        have hT1 := hK1'.out.below (hB15'.out.trans (hbw.mono hB15'.out.size))
        have hT2 := hK'.out.below hbw
        have q0 := hT1.c0 i y1 hy1
        have q1 := hT1.c1 i y1 hy1
        have p0 := hT2.c0 i y2 hy2
        have p1 := hT2.c1 i y2 hy2
        rw [hk1] at p0
        rw [hk2] at p1
        generalize ((y1.1 : Nat) : Int) = k0 at q0 p0
        generalize ba y1.2.1 = k1 at q1 p1
        have HW := Lib.hid hbw
        clear hT1 hT2 hy1 hy2 hk hk1 hk2 hbw hi
        go_wp2_with fail
        go_quiet (fail)
        go_wp2_with fail
        go_roundw
        case rel => exact ⟨i + 1, by go_num, by omega, below_drewN HW.out _⟩
        case measure => simp [intOf]; omega
      · obtain rfl : i = n1 := by omega
        have cW3 := cW'.out wr HB4.out
        clear hbw hlt
        go_wp2_with fail
        refine cW3.mono ?_
        rintro e w6 ⟨rfl, hb6⟩
        have HB5 := Lib.hid (HB4.out.trans (hb6.mono HB4.out.size))
        go_wp2_with fail
        go_ret
        exact ⟨rfl, HB5.out⟩
end Go.Proofs.YtekoeobfddfgpaaGreatDoor.C
set_option linter.unusedVariables false
set_option linter.unusedSimpArgs false
namespace Go.Proofs.YtekoeobfddfgpaaGreatDoor.C
open Go Go.RowKit Go.Proofs.YtekoeobfddfgpaaGreatDoor.M Go.Proofs.YtekoeobfddfgpaaGreatDoor.E Go.Proofs.YtekoeobfddfgpaaGreatDoor.PAll Go.Proofs.YtekoeobfddfgpaaGreatDoorW.PrintWords
abbrev TkL := List (Nat × List UInt8 × Nat × Nat × Nat)
def tkl (l : List UInt8) (xs : List (Nat × List UInt8 × List UInt8)) : TkL := xs.map fun y => (y.1, y.2.1, (place l y.2.2).1, (place l y.2.2).2, l.length - y.2.2.length)
structure TK (W : World) (g : Nat) (TL : TkL) : Prop where
  lt : g < W.heap.size
  c : ∀ j y, TL[j]? = some y → W.cell? ⟨g, j * 5, none⟩ = some (.int .i64 (y.1 : Nat)) ∧ W.cell? ⟨g, j * 5 + 1, none⟩ = some (.string (ba y.2.1)) ∧ W.cell? ⟨g, j * 5 + 2, none⟩ = some (.int .i64 (y.2.2.1 : Nat)) ∧ W.cell? ⟨g, j * 5 + 3, none⟩ = some (.int .i64 (y.2.2.2.1 : Nat)) ∧ W.cell? ⟨g, j * 5 + 4, none⟩ = some (.int .i64 (y.2.2.2.2 : Nat))
theorem TK.below {W W' : World} {g : Nat} {TL : TkL} (h : TK W g TL) (hb : Below W.heap.size W W') : TK W' g TL :=
  ⟨Nat.lt_of_lt_of_le h.lt hb.size, fun j y hj => by
    obtain ⟨a, b, c, d, e⟩ := h.c j y hj
    exact ⟨(hb.cell (p := ⟨g, j * 5, none⟩) h.lt).trans a, (hb.cell (p := ⟨g, j * 5 + 1, none⟩) h.lt).trans b, (hb.cell (p := ⟨g, j * 5 + 2, none⟩) h.lt).trans c, (hb.cell (p := ⟨g, j * 5 + 3, none⟩) h.lt).trans d, (hb.cell (p := ⟨g, j * 5 + 4, none⟩) h.lt).trans e⟩⟩
theorem tk_of {W : World} {B : Nat} {v : Value} {l : List UInt8} {xs : List (Nat × List UInt8 × List UInt8)} {g cap : Nat} (h : Toks W B v l xs g cap) : TK W g (tkl l xs) :=
  ⟨h.lt, fun j y hj => by
    unfold tkl at hj
    rw [List.getElem?_map] at hj
    cases hx : xs[j]? with
    | none => rw [hx] at hj; cases hj
    | some x =>
      rw [hx] at hj
      injection hj with hj
      subst hj
      exact ⟨h.c0 j x hx, h.c1 j x hx, h.c2 j x hx, h.c3 j x hx, h.c4 j x hx⟩⟩
theorem scan_cl (s : ByteArray) (TL : TkL) (hE : scanE (bl s) = none) (hT : tkl (bl s) (scanM (bl s)).1 = TL) (hn : TL ≠ []) (w : World) (hs : s.size ≤ 140737488351232) (hL : Laid w) :
    Calls Tryz.prog 8 #[.string s] w fun e w' => ∃ g cap, e = .returned (.tuple #[.slice (some ⟨g, 0, none⟩) TL.length cap, .nilIface]) ∧ TK w' g TL ∧ Below w.heap.size w w' := by
  refine (scan_any s w hs hL.1).mono ?_
  rintro e w' ⟨hb, hr⟩
  rcases hr with ⟨no, ln, cl, hr, _⟩ | ⟨_, v, rfl, hown⟩
  · rw [hE] at hr; cases hr
  · have hne : (scanM (bl s)).1 ≠ [] := by intro e; rw [e] at hT; exact hn hT.symm
    obtain ⟨g, cap, hK⟩ := toks_of hown hne
    have hl : TL.length = (scanM (bl s)).1.length := by rw [← hT, tkl, List.length_map]
    refine ⟨g, cap, ?_, ?_, hb⟩
    · rw [hl, hK.v]
    · rw [← hT]; exact tk_of hK
theorem scan_er (s : ByteArray) (no ln cl : Nat) (hE : scanE (bl s) = some (no, ln, cl)) (w : World) (hs : s.size ≤ 140737488351232) (hL : Laid w) :
    Calls Tryz.prog 8 #[.string s] w fun e w' => e = .returned (.tuple #[.slice none 0 0, flt (no : Nat) (ln : Nat) (cl : Nat)]) ∧ Below w.heap.size w w' := by
  refine (scan_any s w hs hL.1).mono ?_
  rintro e w' ⟨hb, hr⟩
  rcases hr with ⟨no', ln', cl', hr, rfl⟩ | ⟨hr, _⟩
  · rw [hE] at hr
    injection hr with hr
    injection hr with h1 hr
    injection hr with h2 h3
    subst h1; subst h2; subst h3
    exact ⟨rfl, hb⟩
  · rw [hE] at hr; cases hr
theorem tok_any (k : Int) (t : ByteArray) (ln cl at_ : Int) (w : World) :
    Calls Tryz.prog 25 #[.agg #[.int .i64 k, .string t, .int .i64 ln, .int .i64 cl, .int .i64 at_], .int .i64 k, .string t, .int .i64 ln, .int .i64 cl] w fun e w' => e = .returned (.bool true) ∧ Below w.heap.size w w' :=
  glossarylaw05_tok.calls k t ln cl at_ k t ln cl true w (by unfold glossarylaw05_tok.f; rw [if_pos rfl, if_pos rfl, if_pos rfl]; simp)
theorem rep_snoc (c : UInt8) (n : Nat) : List.replicate n c ++ [c] = List.replicate (n + 1) c := by rw [List.replicate_succ']
set_option maxHeartbeats 4000000 in
set_option maxRecDepth 100000 in
theorem times_any (c : UInt8) (n : Nat) (hn0 : 0 < n) (hn : n ≤ 2000000) (w : World) :
    Calls Tryz.prog 63 #[.string ⟨#[c]⟩, .int .i64 (n : Nat)] w fun e w' => e = .returned (.string (ba (List.replicate n c))) ∧ Below w.heap.size w w' := by
  have hg : ∀ h, (⟨#[c]⟩ : ByteArray)[0]'h = c := fun h => rfl
  go_enter Tryz.func63, Tryz.ntmps63
  go_wp2
  go_loopw [5, 6] (fun ov iv wr => ∃ i : Nat, iv = .int .i64 i ∧ i ≤ n ∧ Hid (BR wr w.heap.size ov (List.replicate i c)) ∧ Below w.heap.size w wr) (fun _ v _ => n - (intOf v).toNat)
  case atStart => exact ⟨0, rfl, Nat.zero_le _, Lib.hid (BR.nil _ _), Below.refl _ _⟩
  case round =>
    obtain ⟨i, rfl, hi, HR, hb⟩ := hrel
    by_cases hlt : i < n
    · have hlti : (i : Int) < n := by omega
      go_wp2
      go_loopw [5, 7] (fun ov kv wr2 => ∃ k : Nat, kv = .int .i64 k ∧ k ≤ 1 ∧ Hid (BR wr2 w.heap.size ov (List.replicate (i + k) c)) ∧ Below w.heap.size w wr2) (fun _ v _ => 1 - (intOf v).toNat)
      case atStart => exact ⟨0, rfl, Nat.zero_le _, HR, hb⟩
      case round =>
        obtain ⟨k, rfl, hk, HR2, hb2⟩ := hrel
        by_cases hk1 : k < 1
        · obtain rfl : k = 0 := by omega
          have hsz : w.heap.size ≤ wr.heap.size := hb2.size
          rw [Nat.add_zero] at HR2
          go_wp2_with (at_builtin; refine wpList_bs rfl (.tmp 19) (.tmp 23) rfl (by simp [Act.eval, Act.put]) (HR2.out.below (by exact (Below.refl _ _).alloc (Nat.le_refl _) _)) (by simp; exact Nat.le_trans hsz (Nat.le_add_right _ _)) wr.heap.size 1 1 (by simp [Act.eval, Act.put]) (by exact heap_alloc_new wr _) (ys := [c]) rfl rfl (by decide) (by simp; omega) ?_; intro v7 w7 hR7 hB7 _ _)
          rw [rep_snoc] at hR7
          have HR7 := Lib.hid hR7
          have HB7 := Lib.hid ((hb2.alloc hb2.size _).trans hB7)
          clear hR7 hB7 HR2 HR hb2 hb
          go_wp2
          go_roundw
          case rel => exact ⟨1, by go_num, by omega, HR7, HB7.out⟩
          case measure => simp [intOf]
        · obtain rfl : k = 1 := by omega
          go_wp2
          go_roundw
          case rel => exact ⟨i + 1, by go_num, by omega, HR2, hb2⟩
          case measure => simp [intOf]; omega
    · obtain rfl : i = n := by omega
      have hcv := HR.out.conv (by intro e; have := congrArg List.length e; simp at this; omega)
      go_wp2
      go_ret
      exact ⟨rfl, hb⟩
theorem rep_drop {c : UInt8} {n m : Nat} : (List.replicate n c).drop m = List.replicate (n - m) c := by simp
theorem plc_nl : ∀ (n : Nat) (p : Nat × Nat), plB p (List.replicate n 10) = if n = 0 then p else (p.1 + n, 1) := by
  intro n
  induction n with
  | zero => intro p; rw [List.replicate_zero, plB_nil]; rfl
  | succ n ih =>
    intro p
    have hne : List.replicate (n + 1) (10 : UInt8) ≠ [] := by simp
    have hb : b0 (List.replicate (n + 1) (10 : UInt8)) = 10 := by rw [List.replicate_succ]; rfl
    have hu := b0_unit hne (by rw [hb]; decide)
    rw [plB_cons p hne, hu.1, rep_drop, Nat.add_sub_cancel, ih]
    have hst : pstep p (List.replicate (n + 1) (10 : UInt8)) = (p.1 + 1, 1) := by unfold pstep; rw [if_pos (by rw [hu.2, hb])]
    rw [hst, if_neg (Nat.succ_ne_zero n)]
    by_cases h : n = 0
    · rw [if_pos h, h]
    · rw [if_neg h]
      simp only [Prod.mk.injEq, and_true]; omega
theorem plc_as : ∀ (n : Nat) (p : Nat × Nat), plB p (List.replicate n 97) = (p.1, p.2 + n) := by
  intro n
  induction n with
  | zero => intro p; rw [List.replicate_zero, plB_nil]; rfl
  | succ n ih =>
    intro p
    have hne : List.replicate (n + 1) (97 : UInt8) ≠ [] := by simp
    have hb : b0 (List.replicate (n + 1) (97 : UInt8)) = 97 := by rw [List.replicate_succ]; rfl
    have hu := b0_unit hne (by rw [hb]; decide)
    rw [plB_cons p hne, hu.1, rep_drop, Nat.add_sub_cancel, ih]
    have hst : pstep p (List.replicate (n + 1) (97 : UInt8)) = (p.1, p.2 + 1) := by unfold pstep; rw [if_neg (by rw [hu.2, hb]; decide)]
    rw [hst]
    simp only [Prod.mk.injEq, true_and]; omega
theorem past_nls (z : List UInt8) : ∀ n, past (List.replicate n 10 ++ z) = past z := by
  intro n
  induction n with
  | zero => rfl
  | succ n ih => rw [List.replicate_succ, List.cons_append, past_blk (by decide), ih]
theorem textM_as : ∀ n, textM (List.replicate n 97) = (List.replicate n 97, n, 0) := by
  intro n
  induction n with
  | zero => rw [List.replicate_zero, textM]; simp
  | succ n ih =>
    have hne : List.replicate (n + 1) (97 : UInt8) ≠ [] := by simp
    have hb : b0 (List.replicate (n + 1) (97 : UInt8)) = 97 := by rw [List.replicate_succ]; rfl
    have hu := b0_unit hne (by rw [hb]; decide)
    have hp : pieceM (List.replicate (n + 1) 97) = ([97], 1, 0) := by
      have h1 := hu.1
      rw [List.replicate_succ] at h1 ⊢
      simp only [pieceM]
      rw [if_neg (by decide), if_neg (by decide), show (blk 97 || sgn 97) = false by decide, h1]
      simp
    rw [textM.eq_1, dif_neg hne, hp]
    simp only [ne_eq, not_true_eq_false, if_false]
    rw [dif_neg (by decide), rep_drop, Nat.add_sub_cancel, ih]
    simp only [List.replicate_succ, List.singleton_append, Prod.mk.injEq, true_and, and_true]
    omega
theorem scanM_as (n : Nat) : scanM (List.replicate (n + 1) 97) = ([(1, List.replicate (n + 1) 97, List.replicate (n + 1) 97), (0, [], [])], none) := by
  have hp : past (List.replicate (n + 1) 97) = List.replicate (n + 1) 97 := by rw [List.replicate_succ]; exact past_cons (by decide) (by decide)
  have ht := textM_as (n + 1)
  have ho : oneM (List.replicate (n + 1) 97) = .tok 1 (List.replicate (n + 1) 97) (n + 1) := by
    rw [List.replicate_succ] at ht ⊢
    simp only [oneM]
    rw [if_neg (by decide), if_neg (by decide), if_neg (by decide), if_neg (by decide), ht]
    simp
  rw [scanM_tok (by rw [hp]; simp) (by rw [hp]; exact ho), hp, rep_drop, Nat.sub_self, List.replicate_zero, scanM_end past_nil]
theorem linesN_nls (n : Nat) (z : List UInt8) : linesN (List.replicate n 10 ++ z) = n + linesN z := by
  induction n with
  | zero => simp
  | succ n ih => rw [List.replicate_succ, List.cons_append, linesN_cons, if_pos (.inl rfl), ih]; omega
theorem linesN_as (n : Nat) : linesN (List.replicate (n + 1) 97) = 1 := by
  induction n with
  | zero => decide
  | succ n ih => rw [List.replicate_succ, linesN_cons, ih, if_neg (by simp)]
theorem great1 (N : Nat) (hN : N = 65536) : scanE (List.replicate N 10) = none ∧ tkl (List.replicate N 10) (scanM (List.replicate N 10)).1 = [(0, [], N + 1, 1, N)] := by
  have hl := linesN_nls N []
  rw [List.append_nil] at hl
  have hp := past_nls [] N
  rw [List.append_nil, past_nil] at hp
  have hs := scanM_end hp
  have h0 : linesN [] = 0 := rfl
  constructor
  · unfold scanE
    rw [hl, h0, if_neg (by rw [List.length_replicate]; omega), if_neg (by omega), hs]
  · rw [hs]
    have hpl := plc_nl N (1, 1)
    rw [if_neg (by omega)] at hpl
    have e1 : place (List.replicate N 10) [] = (N + 1, 1) := by
      unfold place
      rw [List.length_nil, Nat.sub_zero, List.take_length, hpl, Nat.add_comm]
    unfold tkl
    rw [List.map_cons, List.map_nil, e1, List.length_replicate]
    rfl
theorem great2 (N : Nat) (hN : N = 65536) (z : List UInt8) (hz : 1 ≤ linesN z) (hl : z.length ≤ 1000) : scanE (List.replicate N 10 ++ z) = some (5, 65537, 1) := by
  have h := linesN_nls N z
  unfold scanE
  rw [h, if_neg (by rw [List.length_append, List.length_replicate]; omega), if_pos (by omega)]
theorem great3 (N : Nat) (hN : N = 65535) : scanE (List.replicate N 10 ++ [97]) = none ∧ tkl (List.replicate N 10 ++ [97]) (scanM (List.replicate N 10 ++ [97])).1 = [(1, [97], N + 1, 1, N), (0, [], N + 1, 2, N + 1)] := by
  have hl := linesN_nls N [97]
  rw [show linesN [97] = 1 by decide] at hl
  have hp := past_nls [97] N
  rw [show past [97] = [97] from past_cons (by decide) (by decide)] at hp
  have hs : scanM (List.replicate N 10 ++ [97]) = ([(1, [97], [97]), (0, [], [])], none) := by
    rw [scanM_past (t' := [97]) (by rw [hp]; exact (past_cons (by decide) (by decide)).symm)]
    exact scanM_as 0
  constructor
  · unfold scanE
    rw [hl, if_neg (by rw [List.length_append, List.length_replicate]; simp; omega), if_neg (by omega), hs]
  · rw [hs]
    have hpl := plc_nl N (1, 1)
    rw [if_neg (by omega)] at hpl
    have hch : Ch (List.replicate N 10 ++ [97]) [97] := by
      have := past_ch (List.replicate N 10 ++ [97])
      rw [hp] at this; exact this
    have e1 : place (List.replicate N 10 ++ [97]) [97] = (N + 1, 1) := by
      unfold place
      rw [List.length_append, Nat.add_sub_cancel, List.length_replicate, List.take_left' (List.length_replicate), hpl, Nat.add_comm]
    have e2 : place (List.replicate N 10 ++ [97]) [] = (N + 1, 2) := by
      have h := place_step hch (n := 1) (by simp) (Ch.nil _)
      rw [e1] at h
      have e3 : ([97] : List UInt8).drop 1 = [] := rfl
      have e4 : ([97] : List UInt8).take 1 = [97] := rfl
      rw [e3, e4] at h
      rw [h]
      have h5 : sfx ([97] : List UInt8) = [[97]] := by decide +kernel
      unfold skipP
      rw [if_pos (by decide), h5]; rfl
    unfold tkl
    rw [List.map_cons, List.map_cons, List.map_nil, e1, e2, List.length_append, List.length_replicate]
    rfl
theorem great4 (N : Nat) (hN : N = 1048575) : scanE (List.replicate (N + 1) 97) = none ∧ tkl (List.replicate (N + 1) 97) (scanM (List.replicate (N + 1) 97)).1 = [(1, List.replicate (N + 1) 97, 1, 1, 0), (0, [], 1, N + 1 + 1, N + 1)] := by
  have hl := linesN_as N
  have hs := scanM_as N
  constructor
  · unfold scanE
    rw [hl, if_neg (by rw [List.length_replicate]; omega), if_neg (by decide), hs]
  · rw [hs]
    have hpl := plc_as (N + 1) (1, 1)
    have e1 : place (List.replicate (N + 1) 97) (List.replicate (N + 1) 97) = (1, 1) := place_start _
    have e2 : place (List.replicate (N + 1) 97) [] = (1, N + 1 + 1) := by
      unfold place
      rw [List.length_nil, Nat.sub_zero, List.take_length, hpl, Nat.add_comm 1 (N + 1)]
    unfold tkl
    rw [List.map_cons, List.map_cons, List.map_nil, e1, e2, List.length_replicate, Nat.sub_self]
    rfl
theorem great5 {l : List UInt8} (h : 1048576 < l.length) : scanE l = some (5, 0, 0) := by unfold scanE; rw [if_pos h]
end Go.Proofs.YtekoeobfddfgpaaGreatDoor.C
set_option linter.unusedVariables false
set_option linter.unusedSimpArgs false
namespace Go.Proofs.YtekoeobfddfgpaaGreatDoor.C
open Go Go.RowKit Go.Proofs.YtekoeobfddfgpaaGreatDoor.M Go.Proofs.YtekoeobfddfgpaaGreatDoor.E Go.Proofs.YtekoeobfddfgpaaGreatDoor.PAll Go.Proofs.YtekoeobfddfgpaaGreatDoorW.PrintWords
def tl0 : TkL := [(2, [38], 1, 1, 0), (1, [97], 1, 3, 2), (2, [60, 60, 60], 1, 5, 4), (1, [98, 32, 99], 1, 9, 8), (2, [47], 1, 15, 14), (1, [99, 104], 1, 17, 16), (0, [], 1, 23, 22)]
theorem scl0 (w : World) (hL : Laid w) : Calls Tryz.prog 8 #[.string ⟨#[38, 32, 97, 32, 60, 60, 60, 32, 39, 98, 32, 99, 39, 32, 47, 32, 99, 104, 32, 35, 32, 120]⟩] w fun e w' => ∃ g cap, e = .returned (.tuple #[.slice (some ⟨g, 0, none⟩) 7 cap, .nilIface]) ∧ TK w' g tl0 ∧ Below w.heap.size w w' :=
  scan_cl ⟨#[38, 32, 97, 32, 60, 60, 60, 32, 39, 98, 32, 99, 39, 32, 47, 32, 99, 104, 32, 35, 32, 120]⟩ tl0 (by decide +kernel) (by decide +kernel) (by decide) w (by decide) hL
def tl1 : TkL := [(2, [38], 1, 1, 0), (3, [98, 101, 102, 111, 114, 101, 32, 49], 1, 2, 1), (1, [97], 1, 13, 12), (2, [60, 42], 1, 14, 13), (1, [98], 1, 16, 15), (2, [45], 1, 17, 16), (1, [100], 1, 18, 17), (2, [61], 1, 19, 18), (1, [120], 1, 20, 19), (0, [], 1, 21, 20)]
theorem scl1 (w : World) (hL : Laid w) : Calls Tryz.prog 8 #[.string ⟨#[38, 91, 98, 101, 102, 111, 114, 101, 32, 32, 49, 93, 97, 60, 42, 98, 45, 100, 61, 120]⟩] w fun e w' => ∃ g cap, e = .returned (.tuple #[.slice (some ⟨g, 0, none⟩) 10 cap, .nilIface]) ∧ TK w' g tl1 ∧ Below w.heap.size w w' :=
  scan_cl ⟨#[38, 91, 98, 101, 102, 111, 114, 101, 32, 32, 49, 93, 97, 60, 42, 98, 45, 100, 61, 120]⟩ tl1 (by decide +kernel) (by decide +kernel) (by decide) w (by decide) hL
def tl2 : TkL := [(2, [60, 60, 60], 1, 1, 0), (2, [60], 1, 4, 3), (0, [], 1, 5, 4)]
theorem scl2 (w : World) (hL : Laid w) : Calls Tryz.prog 8 #[.string ⟨#[60, 60, 60, 60]⟩] w fun e w' => ∃ g cap, e = .returned (.tuple #[.slice (some ⟨g, 0, none⟩) 3 cap, .nilIface]) ∧ TK w' g tl2 ∧ Below w.heap.size w w' :=
  scan_cl ⟨#[60, 60, 60, 60]⟩ tl2 (by decide +kernel) (by decide +kernel) (by decide) w (by decide) hL
def tl3 : TkL := [(2, [60, 60, 60, 42], 1, 1, 0), (0, [], 1, 5, 4)]
theorem scl3 (w : World) (hL : Laid w) : Calls Tryz.prog 8 #[.string ⟨#[60, 60, 60, 42]⟩] w fun e w' => ∃ g cap, e = .returned (.tuple #[.slice (some ⟨g, 0, none⟩) 2 cap, .nilIface]) ∧ TK w' g tl3 ∧ Below w.heap.size w w' :=
  scan_cl ⟨#[60, 60, 60, 42]⟩ tl3 (by decide +kernel) (by decide +kernel) (by decide) w (by decide) hL
def tl4 : TkL := [(1, [105, 116, 39, 115, 195, 164, 128, 45], 1, 1, 0), (0, [], 1, 20, 19)]
theorem scl4 (w : World) (hL : Laid w) : Calls Tryz.prog 8 #[.string ⟨#[39, 105, 116, 39, 39, 115, 39, 92, 117, 123, 101, 52, 125, 92, 120, 56, 48, 92, 45]⟩] w fun e w' => ∃ g cap, e = .returned (.tuple #[.slice (some ⟨g, 0, none⟩) 2 cap, .nilIface]) ∧ TK w' g tl4 ∧ Below w.heap.size w w' :=
  scan_cl ⟨#[39, 105, 116, 39, 39, 115, 39, 92, 117, 123, 101, 52, 125, 92, 120, 56, 48, 92, 45]⟩ tl4 (by decide +kernel) (by decide +kernel) (by decide) w (by decide) hL
def tl5 : TkL := [(1, [], 1, 1, 0), (0, [], 1, 3, 2)]
theorem scl5 (w : World) (hL : Laid w) : Calls Tryz.prog 8 #[.string ⟨#[39, 39]⟩] w fun e w' => ∃ g cap, e = .returned (.tuple #[.slice (some ⟨g, 0, none⟩) 2 cap, .nilIface]) ∧ TK w' g tl5 ∧ Below w.heap.size w w' :=
  scan_cl ⟨#[39, 39]⟩ tl5 (by decide +kernel) (by decide +kernel) (by decide) w (by decide) hL
def tl6 : TkL := [(0, [], 1, 1, 0)]
theorem scl6 (w : World) (hL : Laid w) : Calls Tryz.prog 8 #[.string ⟨#[]⟩] w fun e w' => ∃ g cap, e = .returned (.tuple #[.slice (some ⟨g, 0, none⟩) 1 cap, .nilIface]) ∧ TK w' g tl6 ∧ Below w.heap.size w w' :=
  scan_cl ⟨#[]⟩ tl6 (by decide +kernel) (by decide +kernel) (by decide) w (by decide) hL
def tl7 : TkL := [(0, [], 1, 2, 1)]
theorem scl7 (w : World) (hL : Laid w) : Calls Tryz.prog 8 #[.string ⟨#[35]⟩] w fun e w' => ∃ g cap, e = .returned (.tuple #[.slice (some ⟨g, 0, none⟩) 1 cap, .nilIface]) ∧ TK w' g tl7 ∧ Below w.heap.size w w' :=
  scan_cl ⟨#[35]⟩ tl7 (by decide +kernel) (by decide +kernel) (by decide) w (by decide) hL
def tl8 : TkL := [(0, [], 2, 1, 1)]
theorem scl8 (w : World) (hL : Laid w) : Calls Tryz.prog 8 #[.string ⟨#[10]⟩] w fun e w' => ∃ g cap, e = .returned (.tuple #[.slice (some ⟨g, 0, none⟩) 1 cap, .nilIface]) ∧ TK w' g tl8 ∧ Below w.heap.size w w' :=
  scan_cl ⟨#[10]⟩ tl8 (by decide +kernel) (by decide +kernel) (by decide) w (by decide) hL
theorem qcl0 (w : World) (hL : Laid w) : Calls Tryz.prog 26 #[.string ⟨#[97, 45, 98]⟩] w fun e w' => e = .returned (.string ⟨#[97, 92, 45, 98]⟩) ∧ Below w.heap.size w w' := by
  refine (quote_any ⟨#[97, 45, 98]⟩ (by decide) w hL.1).mono ?_
  rintro e w' ⟨rfl, hb⟩
  rw [show ba (quoteM (bl ⟨#[97, 45, 98]⟩)) = ⟨#[97, 92, 45, 98]⟩ by decide +kernel]
  exact ⟨rfl, hb⟩
theorem qcl1 (w : World) (hL : Laid w) : Calls Tryz.prog 26 #[.string ⟨#[32]⟩] w fun e w' => e = .returned (.string ⟨#[92, 117, 123, 50, 48, 125]⟩) ∧ Below w.heap.size w w' := by
  refine (quote_any ⟨#[32]⟩ (by decide) w hL.1).mono ?_
  rintro e w' ⟨rfl, hb⟩
  rw [show ba (quoteM (bl ⟨#[32]⟩)) = ⟨#[92, 117, 123, 50, 48, 125]⟩ by decide +kernel]
  exact ⟨rfl, hb⟩
theorem qcl2 (w : World) (hL : Laid w) : Calls Tryz.prog 26 #[.string ⟨#[195, 169]⟩] w fun e w' => e = .returned (.string ⟨#[195, 169]⟩) ∧ Below w.heap.size w w' := by
  refine (quote_any ⟨#[195, 169]⟩ (by decide) w hL.1).mono ?_
  rintro e w' ⟨rfl, hb⟩
  rw [show ba (quoteM (bl ⟨#[195, 169]⟩)) = ⟨#[195, 169]⟩ by decide +kernel]
  exact ⟨rfl, hb⟩
theorem qcl3 (w : World) (hL : Laid w) : Calls Tryz.prog 26 #[.string ⟨#[255]⟩] w fun e w' => e = .returned (.string ⟨#[92, 120, 102, 102]⟩) ∧ Below w.heap.size w w' := by
  refine (quote_any ⟨#[255]⟩ (by decide) w hL.1).mono ?_
  rintro e w' ⟨rfl, hb⟩
  rw [show ba (quoteM (bl ⟨#[255]⟩)) = ⟨#[92, 120, 102, 102]⟩ by decide +kernel]
  exact ⟨rfl, hb⟩
theorem qcl4 (w : World) (hL : Laid w) : Calls Tryz.prog 26 #[.string ⟨#[]⟩] w fun e w' => e = .returned (.string ⟨#[39, 39]⟩) ∧ Below w.heap.size w w' := by
  refine (quote_any ⟨#[]⟩ (by decide) w hL.1).mono ?_
  rintro e w' ⟨rfl, hb⟩
  rw [show ba (quoteM (bl ⟨#[]⟩)) = ⟨#[39, 39]⟩ by decide +kernel]
  exact ⟨rfl, hb⟩
set_option maxHeartbeats 8000000 in
set_option maxRecDepth 100000 in
theorem shown_any (w : World) (hL : Laid w) : Calls Tryz.prog 13 #[] w fun e w' => e = .returned (.bool true) ∧ Below w.heap.size w w' := by
  have hB := Below.refl w.heap.size w
  go_enter Tryz.func13, Tryz.ntmps13
  go_wp2_with fail
  refine (scl0 _ (hL.below hB)).mono ?_
  rintro e w1 ⟨ga, capa, rfl, ka', hb⟩
  replace hB := hB.trans (hb.mono hB.size)
  clear hb
  have ka := ka'
  clear ka'
  go_wp2_with fail
  refine (scl1 _ (hL.below hB)).mono ?_
  rintro e w2 ⟨gb, capb, rfl, kb', hb⟩
  replace ka := ka.below hb
  replace hB := hB.trans (hb.mono hB.size)
  clear hb
  have kb := kb'
  clear kb'
  have ca0_0 : w2.cell? ⟨ga, 0, none⟩ = some (.int .i64 2) := (ka.c 0 _ rfl).1
  have ca0_1 : w2.cell? ⟨ga, 1, none⟩ = some (.string ⟨#[38]⟩) := (ka.c 0 _ rfl).2.1
  have ca0_2 : w2.cell? ⟨ga, 2, none⟩ = some (.int .i64 1) := (ka.c 0 _ rfl).2.2.1
  have ca0_3 : w2.cell? ⟨ga, 3, none⟩ = some (.int .i64 1) := (ka.c 0 _ rfl).2.2.2.1
  have ca0_4 : w2.cell? ⟨ga, 4, none⟩ = some (.int .i64 0) := (ka.c 0 _ rfl).2.2.2.2
  go_wp2_with fail
  refine (tok_any _ _ _ _ _ _).mono ?_
  rintro e w3 ⟨rfl, hb⟩
  clear ca0_0 ca0_1 ca0_2 ca0_3 ca0_4
  replace ka := ka.below hb
  replace kb := kb.below hb
  replace hB := hB.trans (hb.mono hB.size)
  clear hb
  have ca1_0 : w3.cell? ⟨ga, 5, none⟩ = some (.int .i64 1) := (ka.c 1 _ rfl).1
  have ca1_1 : w3.cell? ⟨ga, 6, none⟩ = some (.string ⟨#[97]⟩) := (ka.c 1 _ rfl).2.1
  have ca1_2 : w3.cell? ⟨ga, 7, none⟩ = some (.int .i64 1) := (ka.c 1 _ rfl).2.2.1
  have ca1_3 : w3.cell? ⟨ga, 8, none⟩ = some (.int .i64 3) := (ka.c 1 _ rfl).2.2.2.1
  have ca1_4 : w3.cell? ⟨ga, 9, none⟩ = some (.int .i64 2) := (ka.c 1 _ rfl).2.2.2.2
  go_wp2_with fail
  refine (tok_any _ _ _ _ _ _).mono ?_
  rintro e w4 ⟨rfl, hb⟩
  clear ca1_0 ca1_1 ca1_2 ca1_3 ca1_4
  replace ka := ka.below hb
  replace kb := kb.below hb
  replace hB := hB.trans (hb.mono hB.size)
  clear hb
  have ca2_0 : w4.cell? ⟨ga, 10, none⟩ = some (.int .i64 2) := (ka.c 2 _ rfl).1
  have ca2_1 : w4.cell? ⟨ga, 11, none⟩ = some (.string ⟨#[60, 60, 60]⟩) := (ka.c 2 _ rfl).2.1
  have ca2_2 : w4.cell? ⟨ga, 12, none⟩ = some (.int .i64 1) := (ka.c 2 _ rfl).2.2.1
  have ca2_3 : w4.cell? ⟨ga, 13, none⟩ = some (.int .i64 5) := (ka.c 2 _ rfl).2.2.2.1
  have ca2_4 : w4.cell? ⟨ga, 14, none⟩ = some (.int .i64 4) := (ka.c 2 _ rfl).2.2.2.2
  go_wp2_with fail
  refine (tok_any _ _ _ _ _ _).mono ?_
  rintro e w5 ⟨rfl, hb⟩
  clear ca2_0 ca2_1 ca2_2 ca2_3 ca2_4
  replace ka := ka.below hb
  replace kb := kb.below hb
  replace hB := hB.trans (hb.mono hB.size)
  clear hb
  have ca3_0 : w5.cell? ⟨ga, 15, none⟩ = some (.int .i64 1) := (ka.c 3 _ rfl).1
  have ca3_1 : w5.cell? ⟨ga, 16, none⟩ = some (.string ⟨#[98, 32, 99]⟩) := (ka.c 3 _ rfl).2.1
  have ca3_2 : w5.cell? ⟨ga, 17, none⟩ = some (.int .i64 1) := (ka.c 3 _ rfl).2.2.1
  have ca3_3 : w5.cell? ⟨ga, 18, none⟩ = some (.int .i64 9) := (ka.c 3 _ rfl).2.2.2.1
  have ca3_4 : w5.cell? ⟨ga, 19, none⟩ = some (.int .i64 8) := (ka.c 3 _ rfl).2.2.2.2
  go_wp2_with fail
  refine (tok_any _ _ _ _ _ _).mono ?_
  rintro e w6 ⟨rfl, hb⟩
  clear ca3_0 ca3_1 ca3_2 ca3_3 ca3_4
  replace ka := ka.below hb
  replace kb := kb.below hb
  replace hB := hB.trans (hb.mono hB.size)
  clear hb
  have ca4_0 : w6.cell? ⟨ga, 20, none⟩ = some (.int .i64 2) := (ka.c 4 _ rfl).1
  have ca4_1 : w6.cell? ⟨ga, 21, none⟩ = some (.string ⟨#[47]⟩) := (ka.c 4 _ rfl).2.1
  have ca4_2 : w6.cell? ⟨ga, 22, none⟩ = some (.int .i64 1) := (ka.c 4 _ rfl).2.2.1
  have ca4_3 : w6.cell? ⟨ga, 23, none⟩ = some (.int .i64 15) := (ka.c 4 _ rfl).2.2.2.1
  have ca4_4 : w6.cell? ⟨ga, 24, none⟩ = some (.int .i64 14) := (ka.c 4 _ rfl).2.2.2.2
  go_wp2_with fail
  refine (tok_any _ _ _ _ _ _).mono ?_
  rintro e w7 ⟨rfl, hb⟩
  clear ca4_0 ca4_1 ca4_2 ca4_3 ca4_4
  replace ka := ka.below hb
  replace kb := kb.below hb
  replace hB := hB.trans (hb.mono hB.size)
  clear hb
  have ca5_0 : w7.cell? ⟨ga, 25, none⟩ = some (.int .i64 1) := (ka.c 5 _ rfl).1
  have ca5_1 : w7.cell? ⟨ga, 26, none⟩ = some (.string ⟨#[99, 104]⟩) := (ka.c 5 _ rfl).2.1
  have ca5_2 : w7.cell? ⟨ga, 27, none⟩ = some (.int .i64 1) := (ka.c 5 _ rfl).2.2.1
  have ca5_3 : w7.cell? ⟨ga, 28, none⟩ = some (.int .i64 17) := (ka.c 5 _ rfl).2.2.2.1
  have ca5_4 : w7.cell? ⟨ga, 29, none⟩ = some (.int .i64 16) := (ka.c 5 _ rfl).2.2.2.2
  go_wp2_with fail
  refine (tok_any _ _ _ _ _ _).mono ?_
  rintro e w8 ⟨rfl, hb⟩
  clear ca5_0 ca5_1 ca5_2 ca5_3 ca5_4
  replace ka := ka.below hb
  replace kb := kb.below hb
  replace hB := hB.trans (hb.mono hB.size)
  clear hb
  have ca6_0 : w8.cell? ⟨ga, 30, none⟩ = some (.int .i64 0) := (ka.c 6 _ rfl).1
  have ca6_1 : w8.cell? ⟨ga, 31, none⟩ = some (.string ⟨#[]⟩) := (ka.c 6 _ rfl).2.1
  have ca6_2 : w8.cell? ⟨ga, 32, none⟩ = some (.int .i64 1) := (ka.c 6 _ rfl).2.2.1
  have ca6_3 : w8.cell? ⟨ga, 33, none⟩ = some (.int .i64 23) := (ka.c 6 _ rfl).2.2.2.1
  have ca6_4 : w8.cell? ⟨ga, 34, none⟩ = some (.int .i64 22) := (ka.c 6 _ rfl).2.2.2.2
  go_wp2_with fail
  refine (tok_any _ _ _ _ _ _).mono ?_
  rintro e w9 ⟨rfl, hb⟩
  clear ca6_0 ca6_1 ca6_2 ca6_3 ca6_4
  replace ka := ka.below hb
  replace kb := kb.below hb
  replace hB := hB.trans (hb.mono hB.size)
  clear hb
  have cb1_0 : w9.cell? ⟨gb, 5, none⟩ = some (.int .i64 3) := (kb.c 1 _ rfl).1
  have cb1_1 : w9.cell? ⟨gb, 6, none⟩ = some (.string ⟨#[98, 101, 102, 111, 114, 101, 32, 49]⟩) := (kb.c 1 _ rfl).2.1
  have cb1_2 : w9.cell? ⟨gb, 7, none⟩ = some (.int .i64 1) := (kb.c 1 _ rfl).2.2.1
  have cb1_3 : w9.cell? ⟨gb, 8, none⟩ = some (.int .i64 2) := (kb.c 1 _ rfl).2.2.2.1
  have cb1_4 : w9.cell? ⟨gb, 9, none⟩ = some (.int .i64 1) := (kb.c 1 _ rfl).2.2.2.2
  go_wp2_with fail
  refine (tok_any _ _ _ _ _ _).mono ?_
  rintro e w10 ⟨rfl, hb⟩
  clear cb1_0 cb1_1 cb1_2 cb1_3 cb1_4
  replace ka := ka.below hb
  replace kb := kb.below hb
  replace hB := hB.trans (hb.mono hB.size)
  clear hb
  have cb3_0 : w10.cell? ⟨gb, 15, none⟩ = some (.int .i64 2) := (kb.c 3 _ rfl).1
  have cb3_1 : w10.cell? ⟨gb, 16, none⟩ = some (.string ⟨#[60, 42]⟩) := (kb.c 3 _ rfl).2.1
  have cb3_2 : w10.cell? ⟨gb, 17, none⟩ = some (.int .i64 1) := (kb.c 3 _ rfl).2.2.1
  have cb3_3 : w10.cell? ⟨gb, 18, none⟩ = some (.int .i64 14) := (kb.c 3 _ rfl).2.2.2.1
  have cb3_4 : w10.cell? ⟨gb, 19, none⟩ = some (.int .i64 13) := (kb.c 3 _ rfl).2.2.2.2
  go_wp2_with fail
  refine (tok_any _ _ _ _ _ _).mono ?_
  rintro e w11 ⟨rfl, hb⟩
  clear cb3_0 cb3_1 cb3_2 cb3_3 cb3_4
  replace ka := ka.below hb
  replace kb := kb.below hb
  replace hB := hB.trans (hb.mono hB.size)
  clear hb
  have cb5_0 : w11.cell? ⟨gb, 25, none⟩ = some (.int .i64 2) := (kb.c 5 _ rfl).1
  have cb5_1 : w11.cell? ⟨gb, 26, none⟩ = some (.string ⟨#[45]⟩) := (kb.c 5 _ rfl).2.1
  have cb5_2 : w11.cell? ⟨gb, 27, none⟩ = some (.int .i64 1) := (kb.c 5 _ rfl).2.2.1
  have cb5_3 : w11.cell? ⟨gb, 28, none⟩ = some (.int .i64 17) := (kb.c 5 _ rfl).2.2.2.1
  have cb5_4 : w11.cell? ⟨gb, 29, none⟩ = some (.int .i64 16) := (kb.c 5 _ rfl).2.2.2.2
  go_wp2_with fail
  refine (tok_any _ _ _ _ _ _).mono ?_
  rintro e w12 ⟨rfl, hb⟩
  clear cb5_0 cb5_1 cb5_2 cb5_3 cb5_4
  replace ka := ka.below hb
  replace kb := kb.below hb
  replace hB := hB.trans (hb.mono hB.size)
  clear hb
  have cb9_0 : w12.cell? ⟨gb, 45, none⟩ = some (.int .i64 0) := (kb.c 9 _ rfl).1
  go_wp2_with fail
  refine (scl2 _ (hL.below hB)).mono ?_
  rintro e w13 ⟨gc, capc, rfl, kc', hb⟩
  replace ka := ka.below hb
  replace kb := kb.below hb
  replace hB := hB.trans (hb.mono hB.size)
  clear hb
  have kc := kc'
  clear kc'
  clear cb9_0
  go_wp2_with fail
  refine (scl3 _ (hL.below hB)).mono ?_
  rintro e w14 ⟨gd, capd, rfl, kd', hb⟩
  replace ka := ka.below hb
  replace kb := kb.below hb
  replace kc := kc.below hb
  replace hB := hB.trans (hb.mono hB.size)
  clear hb
  have kd := kd'
  clear kd'
  have cc0_1 : w14.cell? ⟨gc, 1, none⟩ = some (.string ⟨#[60, 60, 60]⟩) := (kc.c 0 _ rfl).2.1
  have cc1_1 : w14.cell? ⟨gc, 6, none⟩ = some (.string ⟨#[60]⟩) := (kc.c 1 _ rfl).2.1
  have cd0_1 : w14.cell? ⟨gd, 1, none⟩ = some (.string ⟨#[60, 60, 60, 42]⟩) := (kd.c 0 _ rfl).2.1
  go_wp2_with fail
  refine (scl4 _ (hL.below hB)).mono ?_
  rintro e w15 ⟨gu, capu, rfl, ku', hb⟩
  replace ka := ka.below hb
  replace kb := kb.below hb
  replace kc := kc.below hb
  replace kd := kd.below hb
  replace hB := hB.trans (hb.mono hB.size)
  clear hb
  have ku := ku'
  clear ku'
  clear cc0_1 cc1_1 cd0_1
  go_wp2_with fail
  refine (scl5 _ (hL.below hB)).mono ?_
  rintro e w16 ⟨gv, capv, rfl, kv', hb⟩
  replace ka := ka.below hb
  replace kb := kb.below hb
  replace kc := kc.below hb
  replace kd := kd.below hb
  replace ku := ku.below hb
  replace hB := hB.trans (hb.mono hB.size)
  clear hb
  have kv := kv'
  clear kv'
  have cu0_1 : w16.cell? ⟨gu, 1, none⟩ = some (.string ⟨#[105, 116, 39, 115, 195, 164, 128, 45]⟩) := (ku.c 0 _ rfl).2.1
  have cv0_0 : w16.cell? ⟨gv, 0, none⟩ = some (.int .i64 1) := (kv.c 0 _ rfl).1
  have cv0_1 : w16.cell? ⟨gv, 1, none⟩ = some (.string ⟨#[]⟩) := (kv.c 0 _ rfl).2.1
  go_wp2_with fail
  refine (scl6 _ (hL.below hB)).mono ?_
  rintro e w17 ⟨gx, capx, rfl, kx', hb⟩
  replace ka := ka.below hb
  replace kb := kb.below hb
  replace kc := kc.below hb
  replace kd := kd.below hb
  replace ku := ku.below hb
  replace kv := kv.below hb
  replace hB := hB.trans (hb.mono hB.size)
  clear hb
  have kx := kx'
  clear kx'
  clear cu0_1 cv0_0 cv0_1
  go_wp2_with fail
  refine (scl7 _ (hL.below hB)).mono ?_
  rintro e w18 ⟨gy, capy, rfl, ky', hb⟩
  replace ka := ka.below hb
  replace kb := kb.below hb
  replace kc := kc.below hb
  replace kd := kd.below hb
  replace ku := ku.below hb
  replace kv := kv.below hb
  replace kx := kx.below hb
  replace hB := hB.trans (hb.mono hB.size)
  clear hb
  have ky := ky'
  clear ky'
  go_wp2_with fail
  refine (scl8 _ (hL.below hB)).mono ?_
  rintro e w19 ⟨gz, capz, rfl, kz', hb⟩
  replace ka := ka.below hb
  replace kb := kb.below hb
  replace kc := kc.below hb
  replace kd := kd.below hb
  replace ku := ku.below hb
  replace kv := kv.below hb
  replace kx := kx.below hb
  replace ky := ky.below hb
  replace hB := hB.trans (hb.mono hB.size)
  clear hb
  have kz := kz'
  clear kz'
  have cx0_0 : w19.cell? ⟨gx, 0, none⟩ = some (.int .i64 0) := (kx.c 0 _ rfl).1
  have cx0_1 : w19.cell? ⟨gx, 1, none⟩ = some (.string ⟨#[]⟩) := (kx.c 0 _ rfl).2.1
  have cx0_2 : w19.cell? ⟨gx, 2, none⟩ = some (.int .i64 1) := (kx.c 0 _ rfl).2.2.1
  have cx0_3 : w19.cell? ⟨gx, 3, none⟩ = some (.int .i64 1) := (kx.c 0 _ rfl).2.2.2.1
  have cx0_4 : w19.cell? ⟨gx, 4, none⟩ = some (.int .i64 0) := (kx.c 0 _ rfl).2.2.2.2
  go_wp2_with fail
  refine (tok_any _ _ _ _ _ _).mono ?_
  rintro e w20 ⟨rfl, hb⟩
  clear cx0_0 cx0_1 cx0_2 cx0_3 cx0_4
  replace ka := ka.below hb
  replace kb := kb.below hb
  replace kc := kc.below hb
  replace kd := kd.below hb
  replace ku := ku.below hb
  replace kv := kv.below hb
  replace kx := kx.below hb
  replace ky := ky.below hb
  replace kz := kz.below hb
  replace hB := hB.trans (hb.mono hB.size)
  clear hb
  have cy0_0 : w20.cell? ⟨gy, 0, none⟩ = some (.int .i64 0) := (ky.c 0 _ rfl).1
  have cy0_1 : w20.cell? ⟨gy, 1, none⟩ = some (.string ⟨#[]⟩) := (ky.c 0 _ rfl).2.1
  have cy0_2 : w20.cell? ⟨gy, 2, none⟩ = some (.int .i64 1) := (ky.c 0 _ rfl).2.2.1
  have cy0_3 : w20.cell? ⟨gy, 3, none⟩ = some (.int .i64 2) := (ky.c 0 _ rfl).2.2.2.1
  have cy0_4 : w20.cell? ⟨gy, 4, none⟩ = some (.int .i64 1) := (ky.c 0 _ rfl).2.2.2.2
  go_wp2_with fail
  refine (tok_any _ _ _ _ _ _).mono ?_
  rintro e w21 ⟨rfl, hb⟩
  clear cy0_0 cy0_1 cy0_2 cy0_3 cy0_4
  replace ka := ka.below hb
  replace kb := kb.below hb
  replace kc := kc.below hb
  replace kd := kd.below hb
  replace ku := ku.below hb
  replace kv := kv.below hb
  replace kx := kx.below hb
  replace ky := ky.below hb
  replace kz := kz.below hb
  replace hB := hB.trans (hb.mono hB.size)
  clear hb
  have cz0_0 : w21.cell? ⟨gz, 0, none⟩ = some (.int .i64 0) := (kz.c 0 _ rfl).1
  have cz0_1 : w21.cell? ⟨gz, 1, none⟩ = some (.string ⟨#[]⟩) := (kz.c 0 _ rfl).2.1
  have cz0_2 : w21.cell? ⟨gz, 2, none⟩ = some (.int .i64 2) := (kz.c 0 _ rfl).2.2.1
  have cz0_3 : w21.cell? ⟨gz, 3, none⟩ = some (.int .i64 1) := (kz.c 0 _ rfl).2.2.2.1
  have cz0_4 : w21.cell? ⟨gz, 4, none⟩ = some (.int .i64 1) := (kz.c 0 _ rfl).2.2.2.2
  go_wp2_with fail
  refine (tok_any _ _ _ _ _ _).mono ?_
  rintro e w22 ⟨rfl, hb⟩
  clear cz0_0 cz0_1 cz0_2 cz0_3 cz0_4
  replace ka := ka.below hb
  replace kb := kb.below hb
  replace kc := kc.below hb
  replace kd := kd.below hb
  replace ku := ku.below hb
  replace kv := kv.below hb
  replace kx := kx.below hb
  replace ky := ky.below hb
  replace kz := kz.below hb
  replace hB := hB.trans (hb.mono hB.size)
  clear hb
  go_wp2_with fail
  refine (qcl0 _ (hL.below hB)).mono ?_
  rintro e w23 ⟨rfl, hb⟩
  replace ka := ka.below hb
  replace kb := kb.below hb
  replace kc := kc.below hb
  replace kd := kd.below hb
  replace ku := ku.below hb
  replace kv := kv.below hb
  replace kx := kx.below hb
  replace ky := ky.below hb
  replace kz := kz.below hb
  replace hB := hB.trans (hb.mono hB.size)
  clear hb
  go_wp2_with fail
  refine (qcl1 _ (hL.below hB)).mono ?_
  rintro e w24 ⟨rfl, hb⟩
  replace ka := ka.below hb
  replace kb := kb.below hb
  replace kc := kc.below hb
  replace kd := kd.below hb
  replace ku := ku.below hb
  replace kv := kv.below hb
  replace kx := kx.below hb
  replace ky := ky.below hb
  replace kz := kz.below hb
  replace hB := hB.trans (hb.mono hB.size)
  clear hb
  go_wp2_with fail
  refine (qcl2 _ (hL.below hB)).mono ?_
  rintro e w25 ⟨rfl, hb⟩
  replace ka := ka.below hb
  replace kb := kb.below hb
  replace kc := kc.below hb
  replace kd := kd.below hb
  replace ku := ku.below hb
  replace kv := kv.below hb
  replace kx := kx.below hb
  replace ky := ky.below hb
  replace kz := kz.below hb
  replace hB := hB.trans (hb.mono hB.size)
  clear hb
  go_wp2_with fail
  refine (qcl3 _ (hL.below hB)).mono ?_
  rintro e w26 ⟨rfl, hb⟩
  replace ka := ka.below hb
  replace kb := kb.below hb
  replace kc := kc.below hb
  replace kd := kd.below hb
  replace ku := ku.below hb
  replace kv := kv.below hb
  replace kx := kx.below hb
  replace ky := ky.below hb
  replace kz := kz.below hb
  replace hB := hB.trans (hb.mono hB.size)
  clear hb
  go_wp2_with fail
  refine (qcl4 _ (hL.below hB)).mono ?_
  rintro e w27 ⟨rfl, hb⟩
  replace ka := ka.below hb
  replace kb := kb.below hb
  replace kc := kc.below hb
  replace kd := kd.below hb
  replace ku := ku.below hb
  replace kv := kv.below hb
  replace kx := kx.below hb
  replace ky := ky.below hb
  replace kz := kz.below hb
  replace hB := hB.trans (hb.mono hB.size)
  clear hb
  have HB := Lib.hid hB
  clear hB
  go_wp2_with fail
  go_ret
  exact ⟨rfl, HB.out⟩
end Go.Proofs.YtekoeobfddfgpaaGreatDoor.C
set_option linter.unusedVariables false
set_option linter.unusedSimpArgs false
namespace Go.Proofs.YtekoeobfddfgpaaGreatDoor.C
open Go Go.RowKit Go.Proofs.YtekoeobfddfgpaaGreatDoor.M Go.Proofs.YtekoeobfddfgpaaGreatDoor.E Go.Proofs.YtekoeobfddfgpaaGreatDoor.PAll Go.Proofs.YtekoeobfddfgpaaGreatDoorW.PrintWords
def rfL : List ByteArray := [⟨#[60, 60, 32, 42]⟩, ⟨#[92, 117, 123, 100, 56, 48, 48, 125]⟩, ⟨#[92, 117, 123, 125]⟩, ⟨#[92, 120, 55, 102]⟩, ⟨#[97, 92]⟩, ⟨#[92, 117, 52, 49]⟩, ⟨#[195, 169, 39]⟩, ⟨#[91, 97]⟩, ⟨#[97, 93]⟩, ⟨#[42]⟩]
def rfN : List Nat := [4, 9, 9, 9, 9, 9, 10, 25, 25, 4]
def rfC : List Nat := [4, 1, 1, 1, 2, 1, 2, 1, 2, 1]
theorem rf0 : scanE (bl ⟨#[60, 60, 32, 42]⟩) = some (4, 1, 4) := by decide +kernel
theorem rf1 : scanE (bl ⟨#[92, 117, 123, 100, 56, 48, 48, 125]⟩) = some (9, 1, 1) := by decide +kernel
theorem rf2 : scanE (bl ⟨#[92, 117, 123, 125]⟩) = some (9, 1, 1) := by decide +kernel
theorem rf3 : scanE (bl ⟨#[92, 120, 55, 102]⟩) = some (9, 1, 1) := by decide +kernel
theorem rf4 : scanE (bl ⟨#[97, 92]⟩) = some (9, 1, 2) := by decide +kernel
theorem rf5 : scanE (bl ⟨#[92, 117, 52, 49]⟩) = some (9, 1, 1) := by decide +kernel
theorem rf6 : scanE (bl ⟨#[195, 169, 39]⟩) = some (10, 1, 2) := by decide +kernel
theorem rf7 : scanE (bl ⟨#[91, 97]⟩) = some (25, 1, 1) := by decide +kernel
theorem rf8 : scanE (bl ⟨#[97, 93]⟩) = some (25, 1, 2) := by decide +kernel
theorem rf9 : scanE (bl ⟨#[42]⟩) = some (4, 1, 1) := by decide +kernel
theorem rf_all : ∀ i, i < 10 → scanE (bl (rfL.getD i ⟨#[]⟩)) = some (rfN.getD i 0, 1, rfC.getD i 0) ∧ (rfL.getD i ⟨#[]⟩).size ≤ 1000 ∧ 1 ≤ rfN.getD i 0 ∧ rfN.getD i 0 ≤ 25 := by
  intro i hi
  match i, hi with
  | 0, _ => exact ⟨rf0, by decide, by decide, by decide⟩
  | 1, _ => exact ⟨rf1, by decide, by decide, by decide⟩
  | 2, _ => exact ⟨rf2, by decide, by decide, by decide⟩
  | 3, _ => exact ⟨rf3, by decide, by decide, by decide⟩
  | 4, _ => exact ⟨rf4, by decide, by decide, by decide⟩
  | 5, _ => exact ⟨rf5, by decide, by decide, by decide⟩
  | 6, _ => exact ⟨rf6, by decide, by decide, by decide⟩
  | 7, _ => exact ⟨rf7, by decide, by decide, by decide⟩
  | 8, _ => exact ⟨rf8, by decide, by decide, by decide⟩
  | 9, _ => exact ⟨rf9, by decide, by decide, by decide⟩
def rfW (w : World) : World := ((w.alloc (.cells #[.string ⟨#[60, 60, 32, 42]⟩, .string ⟨#[92, 117, 123, 100, 56, 48, 48, 125]⟩, .string ⟨#[92, 117, 123, 125]⟩, .string ⟨#[92, 120, 55, 102]⟩, .string ⟨#[97, 92]⟩, .string ⟨#[92, 117, 52, 49]⟩, .string ⟨#[195, 169, 39]⟩, .string ⟨#[91, 97]⟩, .string ⟨#[97, 93]⟩, .string ⟨#[42]⟩] 9)).alloc (.cells #[.int .i64 4, .int .i64 9, .int .i64 9, .int .i64 9, .int .i64 9, .int .i64 9, .int .i64 10, .int .i64 25, .int .i64 25, .int .i64 4] 3)).alloc (.cells #[.int .i64 4, .int .i64 1, .int .i64 1, .int .i64 1, .int .i64 2, .int .i64 1, .int .i64 2, .int .i64 1, .int .i64 2, .int .i64 1] 3)
theorem rf_cells (w : World) : ∀ i, i < 10 → (rfW w).cell? ⟨w.heap.size, i, none⟩ = some (.string (rfL.getD i ⟨#[]⟩)) ∧ (rfW w).cell? ⟨w.heap.size + 1, i, none⟩ = some (.int .i64 (rfN.getD i 0 : Nat)) ∧ (rfW w).cell? ⟨w.heap.size + 1 + 1, i, none⟩ = some (.int .i64 (rfC.getD i 0 : Nat)) := by
  intro i hi
  have a1 := heap_alloc_new w (.cells #[.string ⟨#[60, 60, 32, 42]⟩, .string ⟨#[92, 117, 123, 100, 56, 48, 48, 125]⟩, .string ⟨#[92, 117, 123, 125]⟩, .string ⟨#[92, 120, 55, 102]⟩, .string ⟨#[97, 92]⟩, .string ⟨#[92, 117, 52, 49]⟩, .string ⟨#[195, 169, 39]⟩, .string ⟨#[91, 97]⟩, .string ⟨#[97, 93]⟩, .string ⟨#[42]⟩] 9)
  have a2 := heap_alloc_new (w.alloc (.cells #[.string ⟨#[60, 60, 32, 42]⟩, .string ⟨#[92, 117, 123, 100, 56, 48, 48, 125]⟩, .string ⟨#[92, 117, 123, 125]⟩, .string ⟨#[92, 120, 55, 102]⟩, .string ⟨#[97, 92]⟩, .string ⟨#[92, 117, 52, 49]⟩, .string ⟨#[195, 169, 39]⟩, .string ⟨#[91, 97]⟩, .string ⟨#[97, 93]⟩, .string ⟨#[42]⟩] 9)) (.cells #[.int .i64 4, .int .i64 9, .int .i64 9, .int .i64 9, .int .i64 9, .int .i64 9, .int .i64 10, .int .i64 25, .int .i64 25, .int .i64 4] 3)
  have a3 := heap_alloc_new ((w.alloc (.cells #[.string ⟨#[60, 60, 32, 42]⟩, .string ⟨#[92, 117, 123, 100, 56, 48, 48, 125]⟩, .string ⟨#[92, 117, 123, 125]⟩, .string ⟨#[92, 120, 55, 102]⟩, .string ⟨#[97, 92]⟩, .string ⟨#[92, 117, 52, 49]⟩, .string ⟨#[195, 169, 39]⟩, .string ⟨#[91, 97]⟩, .string ⟨#[97, 93]⟩, .string ⟨#[42]⟩] 9)).alloc (.cells #[.int .i64 4, .int .i64 9, .int .i64 9, .int .i64 9, .int .i64 9, .int .i64 9, .int .i64 10, .int .i64 25, .int .i64 25, .int .i64 4] 3)) (.cells #[.int .i64 4, .int .i64 1, .int .i64 1, .int .i64 1, .int .i64 2, .int .i64 1, .int .i64 2, .int .i64 1, .int .i64 2, .int .i64 1] 3)
  have s1 : (w.alloc (.cells #[.string ⟨#[60, 60, 32, 42]⟩, .string ⟨#[92, 117, 123, 100, 56, 48, 48, 125]⟩, .string ⟨#[92, 117, 123, 125]⟩, .string ⟨#[92, 120, 55, 102]⟩, .string ⟨#[97, 92]⟩, .string ⟨#[92, 117, 52, 49]⟩, .string ⟨#[195, 169, 39]⟩, .string ⟨#[91, 97]⟩, .string ⟨#[97, 93]⟩, .string ⟨#[42]⟩] 9)).heap.size = w.heap.size + 1 := by simp
  have s2 : ((w.alloc (.cells #[.string ⟨#[60, 60, 32, 42]⟩, .string ⟨#[92, 117, 123, 100, 56, 48, 48, 125]⟩, .string ⟨#[92, 117, 123, 125]⟩, .string ⟨#[92, 120, 55, 102]⟩, .string ⟨#[97, 92]⟩, .string ⟨#[92, 117, 52, 49]⟩, .string ⟨#[195, 169, 39]⟩, .string ⟨#[91, 97]⟩, .string ⟨#[97, 93]⟩, .string ⟨#[42]⟩] 9)).alloc (.cells #[.int .i64 4, .int .i64 9, .int .i64 9, .int .i64 9, .int .i64 9, .int .i64 9, .int .i64 10, .int .i64 25, .int .i64 25, .int .i64 4] 3)).heap.size = w.heap.size + 1 + 1 := by simp
  rw [s1] at a2
  rw [s2] at a3
  have b1 : (rfW w).heap[w.heap.size]? = _ := (((Below.refl _ _).alloc (by rw [s1]; exact Nat.le_refl _) _).alloc (by rw [s2]; omega) _ : Below (w.heap.size + 1) (w.alloc (.cells #[.string ⟨#[60, 60, 32, 42]⟩, .string ⟨#[92, 117, 123, 100, 56, 48, 48, 125]⟩, .string ⟨#[92, 117, 123, 125]⟩, .string ⟨#[92, 120, 55, 102]⟩, .string ⟨#[97, 92]⟩, .string ⟨#[92, 117, 52, 49]⟩, .string ⟨#[195, 169, 39]⟩, .string ⟨#[91, 97]⟩, .string ⟨#[97, 93]⟩, .string ⟨#[42]⟩] 9)) (rfW w)).block _ (Nat.lt_succ_self _) |>.trans a1
  have b2 : (rfW w).heap[w.heap.size + 1]? = _ := ((Below.refl _ _).alloc (by rw [s2]; exact Nat.le_refl _) _ : Below (w.heap.size + 1 + 1) ((w.alloc (.cells #[.string ⟨#[60, 60, 32, 42]⟩, .string ⟨#[92, 117, 123, 100, 56, 48, 48, 125]⟩, .string ⟨#[92, 117, 123, 125]⟩, .string ⟨#[92, 120, 55, 102]⟩, .string ⟨#[97, 92]⟩, .string ⟨#[92, 117, 52, 49]⟩, .string ⟨#[195, 169, 39]⟩, .string ⟨#[91, 97]⟩, .string ⟨#[97, 93]⟩, .string ⟨#[42]⟩] 9)).alloc (.cells #[.int .i64 4, .int .i64 9, .int .i64 9, .int .i64 9, .int .i64 9, .int .i64 9, .int .i64 10, .int .i64 25, .int .i64 25, .int .i64 4] 3)) (rfW w)).block _ (Nat.lt_succ_self _) |>.trans a2
  have b3 : (rfW w).heap[w.heap.size + 1 + 1]? = _ := a3
  rw [cell_of_row _ _ _ _ _ _ b1, cell_of_row _ _ _ _ _ _ b2, cell_of_row _ _ _ _ _ _ b3]
  match i, hi with
  | 0, _ => exact ⟨rfl, rfl, rfl⟩
  | 1, _ => exact ⟨rfl, rfl, rfl⟩
  | 2, _ => exact ⟨rfl, rfl, rfl⟩
  | 3, _ => exact ⟨rfl, rfl, rfl⟩
  | 4, _ => exact ⟨rfl, rfl, rfl⟩
  | 5, _ => exact ⟨rfl, rfl, rfl⟩
  | 6, _ => exact ⟨rfl, rfl, rfl⟩
  | 7, _ => exact ⟨rfl, rfl, rfl⟩
  | 8, _ => exact ⟨rfl, rfl, rfl⟩
  | 9, _ => exact ⟨rfl, rfl, rfl⟩
set_option maxHeartbeats 8000000 in
set_option maxRecDepth 100000 in
theorem refused_any (w : World) (hL : Laid w) : Calls Tryz.prog 14 #[] w fun e w' => e = .returned (.bool true) ∧ Below w.heap.size w w' := by
  have hc := rf_cells w
  have hw3 : Below w.heap.size w (rfW w) := (((Below.refl _ _).alloc (Nat.le_refl _) _).alloc (by simp) _).alloc (by simp; omega) _
  have hsz : (rfW w).heap.size = w.heap.size + 1 + 1 + 1 := by simp [rfW]
  have Hc := Lib.hid hc
  have Hw3 := Lib.hid hw3
  have Hsz := Lib.hid hsz
  clear hc hw3 hsz
  go_enter Tryz.func14, Tryz.ntmps14
  go_wp2_with fail
  go_loopw [4] (fun iv wr => ∃ i : Nat, iv = .int .i64 i ∧ i ≤ 10 ∧ Below (rfW w).heap.size (rfW w) wr) (fun v _ => 10 - (intOf v).toNat)
  case atStart => exact ⟨0, rfl, Nat.zero_le _, (show Below (rfW w).heap.size (rfW w) (rfW w) from Below.refl _ _)⟩
  case round =>
    obtain ⟨i, rfl, hi, hb⟩ := hrel
    by_cases hlt : i < 10
    · have hli : (i : Int) < 10 := by omega
      obtain ⟨hE, hS, hn1, hn2⟩ := rf_all i hlt
      obtain ⟨k1, k2, k3⟩ := Hc.out i hlt
      obtain ⟨S, hSe⟩ : ∃ S, rfL.getD i ⟨#[]⟩ = S := ⟨_, rfl⟩
      obtain ⟨n, hne⟩ : ∃ n, rfN.getD i 0 = n := ⟨_, rfl⟩
      obtain ⟨c, hce⟩ : ∃ c, rfC.getD i 0 = c := ⟨_, rfl⟩
      rw [hSe] at hE hS k1
      rw [hne] at hE hn1 hn2 k2
      rw [hce] at hE k3
      have hs3 := Hsz.out
      have K := Lib.hid (fun (W : World) (hW : Below (rfW w).heap.size (rfW w) W) => And.intro ((hW.cell (p := ⟨w.heap.size, i, none⟩) (by show w.heap.size < _; omega)).trans k1) (And.intro ((hW.cell (p := ⟨w.heap.size + 1, i, none⟩) (by show w.heap.size + 1 < _; omega)).trans k2) ((hW.cell (p := ⟨w.heap.size + 1 + 1, i, none⟩) (by show w.heap.size + 1 + 1 < _; omega)).trans k3)))
      have hbw := Hw3.out.trans (hb.mono Hw3.out.size)
      have cS := scan_er S n 1 c hE wr (by omega) (hL.below hbw)
      obtain ⟨x1, _, _⟩ := K.out wr hb
      have Hb := Lib.hid hb
      clear hE hS k1 k2 k3 hSe hne hce hs3 hb
      go_wp2_with fail
      refine cS.mono ?_
      rintro e w4 ⟨rfl, hb4⟩
      have hb34 := Hb.out.trans (hb4.mono Hb.out.size)
      obtain ⟨_, x2, x3⟩ := K.out w4.drew hb34.drew
      have hbw4 := hbw.trans (hb4.mono hbw.size)
      have cA := Go.Proofs.YtekoeobfddfgpaaGreatDoor.E.at_fault (n : Nat) (1 : Nat) (c : Nat) w4.drew (by omega) (by omega) (hL.below (hbw4.drew)).2
      have Hb34 := Lib.hid hb34
      clear cS x1 hb4 hb34 hbw hbw4
      go_wp2_with fail
      go_still_tail 13, (by kernel_rfl)
      change wpList _ _ _ _ _ w4.drew
      go_wp2_with fail
      refine cA.mono ?_
      rintro e w5 ⟨rfl, hb5⟩
      have Hb5 := Lib.hid ((Hb34.out.drew).trans (hb5.mono Hb34.out.size))
      clear hb5 cA
      go_wp2_with fail
      go_roundw
      case rel => exact ⟨i + 1, by go_num, by omega, Hb5.out⟩
      case measure => simp [intOf]; omega
    · obtain rfl : i = 10 := by omega
      have HB := Lib.hid (Hw3.out.trans (hb.mono Hw3.out.size))
      clear hb
      go_wp2_with fail
      go_ret
      exact ⟨rfl, HB.out⟩
end Go.Proofs.YtekoeobfddfgpaaGreatDoor.C
set_option linter.unusedVariables false
set_option linter.unusedSimpArgs false
namespace Go.Proofs.YtekoeobfddfgpaaGreatDoor.C
open Go Go.RowKit Go.Proofs.YtekoeobfddfgpaaGreatDoor.M Go.Proofs.YtekoeobfddfgpaaGreatDoor.E Go.Proofs.YtekoeobfddfgpaaGreatDoor.PAll Go.Proofs.YtekoeobfddfgpaaGreatDoorW.PrintWords
theorem bl_cat (a b : ByteArray) : bl (a ++ b) = bl a ++ bl b := by simp [bl, ByteArray.toList_data_append]
set_option maxHeartbeats 8000000 in
set_option maxRecDepth 100000 in
theorem bounds_any (w : World) (hL : Laid w) : Calls Tryz.prog 31 #[] w fun e w' => e = .returned (.bool true) ∧ Below w.heap.size w w' := by
  obtain ⟨N, hN⟩ : ∃ N : Nat, N = 65535 := ⟨_, rfl⟩
  obtain ⟨M, hM⟩ : ∃ M : Nat, M = 1048575 := ⟨_, rfl⟩
  obtain ⟨s, hs⟩ : ∃ s, ba (List.replicate (N + 1) 10) = s := ⟨_, rfl⟩
  obtain ⟨lo, hlo⟩ : ∃ s, ba (List.replicate (M + 1) 97) = s := ⟨_, rfl⟩
  have bs : bl s = List.replicate (N + 1) 10 := by rw [← hs, bl_ba]
  have bo : bl lo = List.replicate (M + 1) 97 := by rw [← hlo, bl_ba]
  have zs : s.size = 65536 := by rw [← bl_len, bs, List.length_replicate]; omega
  have zo : lo.size = 1048576 := by rw [← bl_len, bo, List.length_replicate]; omega
  have cT : Calls Tryz.prog 63 #[.string ⟨#[10]⟩, .int .i64 65536] w fun e w' => e = .returned (.string s) ∧ Below w.heap.size w w' := by
    have := times_any 10 (N + 1) (by omega) (by omega) w
    rw [hs, show ((N + 1 : Nat) : Int) = 65536 by omega] at this
    exact this
  have cU : ∀ W, Calls Tryz.prog 63 #[.string ⟨#[97]⟩, .int .i64 1048576] W fun e w' => e = .returned (.string lo) ∧ Below W.heap.size W w' := fun W => by
    have := times_any 97 (M + 1) (by omega) (by omega) W
    rw [hlo, show ((M + 1 : Nat) : Int) = 1048576 by omega] at this
    exact this
  obtain ⟨x2, hx2⟩ : ∃ x, s ++ ⟨#[97]⟩ = x := ⟨_, rfl⟩
  obtain ⟨y3, hy3⟩ : ∃ x, s.extract 1 s.size = x := ⟨_, rfl⟩
  obtain ⟨x3, hx3⟩ : ∃ x, y3 ++ ⟨#[97]⟩ = x := ⟨_, rfl⟩
  obtain ⟨x4, hx4⟩ : ∃ x, s ++ ⟨#[10, 93]⟩ = x := ⟨_, rfl⟩
  obtain ⟨x6, hx6⟩ : ∃ x, lo ++ ⟨#[93]⟩ = x := ⟨_, rfl⟩
  obtain ⟨x7, hx7⟩ : ∃ x, s ++ lo = x := ⟨_, rfl⟩
  have b2 : bl x2 = List.replicate (N + 1) 10 ++ [97] := by rw [← hx2, bl_cat, bs]
  have b3' : bl y3 = List.replicate N 10 := by rw [← hy3, bl_extract, bs, rep_drop, Nat.add_sub_cancel]
  have b3 : bl x3 = List.replicate N 10 ++ [97] := by rw [← hx3, bl_cat, b3']
  have b4 : bl x4 = List.replicate (N + 1) 10 ++ [10, 93] := by rw [← hx4, bl_cat, bs]
  have z3 : y3.size = 65535 := by rw [← bl_len, b3', List.length_replicate]; exact hN
  have z2 : x2.size ≤ 2000000 := by rw [← bl_len, b2, List.length_append, List.length_replicate]; simp only [List.length_cons, List.length_nil]; omega
  have z3' : x3.size ≤ 2000000 := by rw [← bl_len, b3, List.length_append, List.length_replicate]; simp only [List.length_cons, List.length_nil]; omega
  have z4 : x4.size ≤ 2000000 := by rw [← bl_len, b4, List.length_append, List.length_replicate]; simp only [List.length_cons, List.length_nil]; omega
  have z6 : x6.size = 1048577 := by rw [← hx6, ByteArray.size_append, zo]; rfl
  have z7 : x7.size = 1114112 := by rw [← hx7, ByteArray.size_append, zo, zs]
  have g1 := great1 (N + 1) (by omega)
  have g3 := great3 N hN
  have g4 := great4 M hM
  have c1 : ∀ W, Laid W → Calls Tryz.prog 8 #[.string s] W fun e w' => ∃ g cap, e = .returned (.tuple #[.slice (some ⟨g, 0, none⟩) 1 cap, .nilIface]) ∧ TK w' g [(0, [], N + 1 + 1, 1, N + 1)] ∧ Below W.heap.size W w' := fun W h => scan_cl s [(0, [], N + 1 + 1, 1, N + 1)] (by rw [bs]; exact g1.1) (by rw [bs]; exact g1.2) (by simp) W (by omega) h
  have c2 : ∀ W, Laid W → Calls Tryz.prog 8 #[.string x2] W fun e w' => e = .returned (.tuple #[.slice none 0 0, flt (5 : Nat) (65537 : Nat) (1 : Nat)]) ∧ Below W.heap.size W w' := fun W h => scan_er x2 5 65537 1 (by rw [b2]; exact great2 (N + 1) (by omega) _ (by decide) (by decide)) W (by omega) h
  have c3 : ∀ W, Laid W → Calls Tryz.prog 8 #[.string x3] W fun e w' => ∃ g cap, e = .returned (.tuple #[.slice (some ⟨g, 0, none⟩) 2 cap, .nilIface]) ∧ TK w' g [(1, [97], N + 1, 1, N), (0, [], N + 1, 2, N + 1)] ∧ Below W.heap.size W w' := fun W h => scan_cl x3 [(1, [97], N + 1, 1, N), (0, [], N + 1, 2, N + 1)] (by rw [b3]; exact g3.1) (by rw [b3]; exact g3.2) (by simp) W (by omega) h
  have c4 : ∀ W, Laid W → Calls Tryz.prog 8 #[.string x4] W fun e w' => e = .returned (.tuple #[.slice none 0 0, flt (5 : Nat) (65537 : Nat) (1 : Nat)]) ∧ Below W.heap.size W w' := fun W h => scan_er x4 5 65537 1 (by rw [b4]; exact great2 (N + 1) (by omega) _ (by decide) (by decide)) W (by omega) h
  have c5 : ∀ W, Laid W → Calls Tryz.prog 8 #[.string lo] W fun e w' => ∃ g cap, e = .returned (.tuple #[.slice (some ⟨g, 0, none⟩) 2 cap, .nilIface]) ∧ TK w' g [(1, List.replicate (M + 1) 97, 1, 1, 0), (0, [], 1, M + 1 + 1, M + 1)] ∧ Below W.heap.size W w' := fun W h => scan_cl lo [(1, List.replicate (M + 1) 97, 1, 1, 0), (0, [], 1, M + 1 + 1, M + 1)] (by rw [bo]; exact g4.1) (by rw [bo]; exact g4.2) (by simp) W (by omega) h
  have c6 : ∀ W, Laid W → Calls Tryz.prog 8 #[.string x6] W fun e w' => e = .returned (.tuple #[.slice none 0 0, flt (5 : Nat) (0 : Nat) (0 : Nat)]) ∧ Below W.heap.size W w' := fun W h => scan_er x6 5 0 0 (great5 (by rw [bl_len]; omega)) W (by omega) h
  have c7 : ∀ W, Laid W → Calls Tryz.prog 8 #[.string x7] W fun e w' => e = .returned (.tuple #[.slice none 0 0, flt (5 : Nat) (0 : Nat) (0 : Nat)]) ∧ Below W.heap.size W w' := fun W h => scan_er x7 5 0 0 (great5 (by rw [bl_len]; omega)) W (by omega) h
  have TA := Lib.hid (fun (W : World) (g : Nat) (h : TK W g [(0, [], N + 1 + 1, 1, N + 1)]) => show W.cell? ⟨g, 0, none⟩ = some (.int .i64 0) ∧ W.cell? ⟨g, 1, none⟩ = some (.string ⟨#[]⟩) ∧ W.cell? ⟨g, 2, none⟩ = some (.int .i64 65537) ∧ W.cell? ⟨g, 3, none⟩ = some (.int .i64 1) ∧ W.cell? ⟨g, 4, none⟩ = some (.int .i64 65536) by
    obtain ⟨a, b, c, d, e⟩ := h.c 0 _ rfl
    simp only at a b c d e
    rw [show ((N + 1 + 1 : Nat) : Int) = 65537 by omega] at c
    rw [show ((N + 1 : Nat) : Int) = 65536 by omega] at e
    exact ⟨a, b, c, d, e⟩)
  have TB := Lib.hid (fun (W : World) (g : Nat) (h : TK W g [(1, [97], N + 1, 1, N), (0, [], N + 1, 2, N + 1)]) => show W.cell? ⟨g, 0, none⟩ = some (.int .i64 1) ∧ W.cell? ⟨g, 1, none⟩ = some (.string ⟨#[97]⟩) ∧ W.cell? ⟨g, 2, none⟩ = some (.int .i64 65536) ∧ W.cell? ⟨g, 3, none⟩ = some (.int .i64 1) ∧ W.cell? ⟨g, 4, none⟩ = some (.int .i64 65535) by
    obtain ⟨a, b, c, d, e⟩ := h.c 0 _ rfl
    simp only at a b c d e
    rw [show ((N + 1 : Nat) : Int) = 65536 by omega] at c
    rw [show ((N : Nat) : Int) = 65535 by omega] at e
    exact ⟨a, b, c, d, e⟩)
  have TC := Lib.hid (fun (W : World) (g : Nat) (h : TK W g [(1, List.replicate (M + 1) 97, 1, 1, 0), (0, [], 1, M + 1 + 1, M + 1)]) => show W.cell? ⟨g, 0, none⟩ = some (.int .i64 1) ∧ W.cell? ⟨g, 1, none⟩ = some (.string lo) ∧ W.cell? ⟨g, 2, none⟩ = some (.int .i64 1) ∧ W.cell? ⟨g, 3, none⟩ = some (.int .i64 1) ∧ W.cell? ⟨g, 4, none⟩ = some (.int .i64 0) by
    obtain ⟨a, b, c, d, e⟩ := h.c 0 _ rfl
    simp only at a b c d e
    rw [hlo] at b
    exact ⟨a, b, c, d, e⟩)
  have TD := Lib.hid (fun (W : World) (g : Nat) (h : TK W g [(1, List.replicate (M + 1) 97, 1, 1, 0), (0, [], 1, M + 1 + 1, M + 1)]) => show W.cell? ⟨g, 5, none⟩ = some (.int .i64 0) ∧ W.cell? ⟨g, 6, none⟩ = some (.string ⟨#[]⟩) ∧ W.cell? ⟨g, 7, none⟩ = some (.int .i64 1) ∧ W.cell? ⟨g, 8, none⟩ = some (.int .i64 1048577) ∧ W.cell? ⟨g, 9, none⟩ = some (.int .i64 1048576) by
    obtain ⟨a, b, c, d, e⟩ := h.c 1 _ rfl
    simp only at a b c d e
    rw [show ((M + 1 + 1 : Nat) : Int) = 1048577 by omega] at d
    rw [show ((M + 1 : Nat) : Int) = 1048576 by omega] at e
    exact ⟨a, b, c, d, e⟩)
  have C1 := Lib.hid c1
  have C2 := Lib.hid c2
  have C3 := Lib.hid c3
  have C4 := Lib.hid c4
  have C5 := Lib.hid c5
  have C6 := Lib.hid c6
  have C7 := Lib.hid c7
  obtain ⟨TLa, hTLa⟩ : ∃ T : TkL, [(0, [], N + 1 + 1, 1, N + 1)] = T := ⟨_, rfl⟩
  obtain ⟨TLb, hTLb⟩ : ∃ T : TkL, [(1, [97], N + 1, 1, N), (0, [], N + 1, 2, N + 1)] = T := ⟨_, rfl⟩
  obtain ⟨TLc, hTLc⟩ : ∃ T : TkL, [(1, List.replicate (M + 1) 97, 1, 1, 0), (0, [], 1, M + 1 + 1, M + 1)] = T := ⟨_, rfl⟩
  rw [hTLa] at C1 TA
  rw [hTLb] at C3 TB
  rw [hTLc] at C5 TC TD
  clear hTLa hTLb hTLc c1 c2 c3 c4 c5 c6 c7 g1 g3 g4 b2 b3 b3' b4 bs bo z2 z3' z4 z6 z7 hs hlo hN hM N M
  have hy3' : s.extract 1 65536 = y3 := by rw [← hy3, zs]
  have i1 : ((s.size : Nat) : Int) = 65536 := by omega
  have i2 : ((lo.size : Nat) : Int) = 1048576 := by omega
  have i3 : ((y3.size : Nat) : Int) = 65535 := by omega
  have hB := Below.refl w.heap.size w
  go_enter Tryz.func31, Tryz.ntmps31
  go_wp2_with fail
  refine cT.mono ?_
  rintro e w1 ⟨rfl, hb⟩
  replace hB := hB.trans (hb.mono hB.size)
  clear hb cT
  go_wp2_with fail
  refine (C1.out _ (hL.below hB)).mono ?_
  rintro e w2 ⟨ga, pa, rfl, ka, hb⟩
  replace hB := hB.trans (hb.mono hB.size)
  clear hb C1
  go_wp2_with fail
  refine (C2.out _ (hL.below hB)).mono ?_
  rintro e w3 ⟨rfl, hb⟩
  replace ka := ka.below hb
  replace hB := hB.trans (hb.mono hB.size)
  clear hb C2
  go_wp2_with fail
  refine (C3.out _ (hL.below hB)).mono ?_
  rintro e w4 ⟨gb, pb_, rfl, kb, hb⟩
  replace ka := ka.below hb
  replace hB := hB.trans (hb.mono hB.size)
  clear hb C3
  go_wp2_with fail
  refine (C4.out _ (hL.below hB)).mono ?_
  rintro e w5 ⟨rfl, hb⟩
  replace ka := ka.below hb
  replace kb := kb.below hb
  replace hB := hB.trans (hb.mono hB.size)
  clear hb C4
  go_wp2_with fail
  refine (cU _).mono ?_
  rintro e w6 ⟨rfl, hb⟩
  replace ka := ka.below hb
  replace kb := kb.below hb
  replace hB := hB.trans (hb.mono hB.size)
  clear hb cU
  go_wp2_with fail
  refine (C5.out _ (hL.below hB)).mono ?_
  rintro e w7 ⟨gc, pc, rfl, kc, hb⟩
  replace ka := ka.below hb
  replace kb := kb.below hb
  replace hB := hB.trans (hb.mono hB.size)
  clear hb C5
  go_wp2_with fail
  refine (C6.out _ (hL.below hB)).mono ?_
  rintro e w8 ⟨rfl, hb⟩
  replace ka := ka.below hb
  replace kb := kb.below hb
  replace kc := kc.below hb
  replace hB := hB.trans (hb.mono hB.size)
  clear hb C6
  go_wp2_with fail
  refine (C7.out _ (hL.below hB)).mono ?_
  rintro e w9 ⟨rfl, hb⟩
  replace ka := ka.below hb
  replace kb := kb.below hb
  replace kc := kc.below hb
  replace hB := hB.trans (hb.mono hB.size)
  clear hb C7
  obtain ⟨a0, a1, a2, a3, a4⟩ := TA.out _ _ ka
  go_wp2_with fail
  refine (tok_any _ _ _ _ _ _).mono ?_
  rintro e v1 ⟨rfl, hb⟩
  clear a0 a1 a2 a3 a4 ka TA
  replace kb := kb.below hb
  replace kc := kc.below hb
  replace hB := hB.trans (hb.mono hB.size)
  clear hb
  obtain ⟨a0, a1, a2, a3, a4⟩ := TB.out _ _ kb
  go_wp2_with fail
  refine (tok_any _ _ _ _ _ _).mono ?_
  rintro e v2 ⟨rfl, hb⟩
  clear a0 a1 a2 a3 a4 kb TB
  replace kc := kc.below hb
  replace hB := hB.trans (hb.mono hB.size)
  clear hb
  obtain ⟨a0, a1, a2, a3, a4⟩ := TC.out _ _ kc
  go_wp2_with fail
  refine (tok_any _ _ _ _ _ _).mono ?_
  rintro e v3 ⟨rfl, hb⟩
  clear a0 a1 a2 a3 a4 TC
  replace kc := kc.below hb
  replace hB := hB.trans (hb.mono hB.size)
  clear hb
  obtain ⟨a0, a1, a2, a3, a4⟩ := TD.out _ _ kc
  go_wp2_with fail
  refine (tok_any _ _ _ _ _ _).mono ?_
  rintro e v4 ⟨rfl, hb⟩
  clear a0 a1 a2 a3 a4 kc TD
  replace hB := hB.trans (hb.mono hB.size)
  clear hb
  go_wp2_with fail
  refine (Go.Proofs.YtekoeobfddfgpaaGreatDoor.E.at_fault 5 65537 1 _ (by decide) (by decide) (hL.below hB).2).mono ?_
  rintro e v5 ⟨rfl, hb⟩
  replace hB := hB.trans (hb.mono hB.size)
  clear hb
  go_wp2_with fail
  refine (Go.Proofs.YtekoeobfddfgpaaGreatDoor.E.at_fault 5 65537 1 _ (by decide) (by decide) (hL.below hB).2).mono ?_
  rintro e v6 ⟨rfl, hb⟩
  replace hB := hB.trans (hb.mono hB.size)
  clear hb
  go_wp2_with fail
  refine (Go.Proofs.YtekoeobfddfgpaaGreatDoor.E.at_fault 5 0 0 _ (by decide) (by decide) (hL.below hB).2).mono ?_
  rintro e v7 ⟨rfl, hb⟩
  replace hB := hB.trans (hb.mono hB.size)
  clear hb
  go_wp2_with fail
  refine (Go.Proofs.YtekoeobfddfgpaaGreatDoor.E.at_fault 5 0 0 _ (by decide) (by decide) (hL.below hB).2).mono ?_
  rintro e v8 ⟨rfl, hb⟩
  replace hB := hB.trans (hb.mono hB.size)
  have HB := Lib.hid hB
  clear hb hB
  go_wp2_with fail
  go_ret
  exact ⟨rfl, HB.out⟩
end Go.Proofs.YtekoeobfddfgpaaGreatDoor.C
set_option linter.unusedVariables false
set_option linter.unusedSimpArgs false
namespace Go.Proofs.YtekoeobfddfgpaaGreatDoor.C
open Go Go.RowKit Go.Proofs.YtekoeobfddfgpaaGreatDoor.M Go.Proofs.YtekoeobfddfgpaaGreatDoor.E Go.Proofs.YtekoeobfddfgpaaGreatDoor.PAll Go.Proofs.YtekoeobfddfgpaaGreatDoorW.PrintWords
theorem conv_wrap (W : World) (c : Nat) (hc : c < 256) : (convert 61 9 (.slice (some ⟨W.heap.size, 0, none⟩) 1 1)).run Tryz.prog (W.alloc (.cells #[.int .u8 (c : Int)] 5)) = .ok (.string (ba [UInt8.ofNat c])) (W.alloc (.cells #[.int .u8 (c : Int)] 5)) := by
  have := conv_one W c
  rwa [show (c : Int) % 256 = (c : Int) by omega] at this
def egP (X : ByteArray) : List ByteArray := [X, (⟨#[97]⟩ : ByteArray) ++ X ++ (⟨#[98]⟩ : ByteArray), (⟨#[92]⟩ : ByteArray) ++ X, (⟨#[39]⟩ : ByteArray) ++ X ++ (⟨#[39]⟩ : ByteArray), (⟨#[39]⟩ : ByteArray) ++ X, (⟨#[91]⟩ : ByteArray) ++ X ++ (⟨#[32]⟩ : ByteArray) ++ X ++ (⟨#[93]⟩ : ByteArray), (⟨#[60]⟩ : ByteArray) ++ X, (⟨#[60, 60]⟩ : ByteArray) ++ X, (⟨#[60, 60, 60]⟩ : ByteArray) ++ X, (⟨#[61]⟩ : ByteArray) ++ X, (⟨#[35]⟩ : ByteArray) ++ X ++ (⟨#[10, 97]⟩ : ByteArray), (⟨#[92, 117, 123, 52]⟩ : ByteArray) ++ X ++ (⟨#[125]⟩ : ByteArray), (⟨#[92, 120, 56]⟩ : ByteArray) ++ X, (⟨#[92, 120]⟩ : ByteArray) ++ X ++ (⟨#[102]⟩ : ByteArray), (⟨#[92, 117]⟩ : ByteArray) ++ X ++ (⟨#[52, 49, 125]⟩ : ByteArray), (⟨#[195, 169, 10]⟩ : ByteArray) ++ X ++ (⟨#[10, 93]⟩ : ByteArray), (⟨#[39, 39]⟩ : ByteArray) ++ X ++ (⟨#[39, 39]⟩ : ByteArray)]
def egPW (w : World) (X : ByteArray) : World := w.alloc (.cells #[Value.string (X), Value.string ((⟨#[97]⟩ : ByteArray) ++ X ++ (⟨#[98]⟩ : ByteArray)), Value.string ((⟨#[92]⟩ : ByteArray) ++ X), Value.string ((⟨#[39]⟩ : ByteArray) ++ X ++ (⟨#[39]⟩ : ByteArray)), Value.string ((⟨#[39]⟩ : ByteArray) ++ X), Value.string ((⟨#[91]⟩ : ByteArray) ++ X ++ (⟨#[32]⟩ : ByteArray) ++ X ++ (⟨#[93]⟩ : ByteArray)), Value.string ((⟨#[60]⟩ : ByteArray) ++ X), Value.string ((⟨#[60, 60]⟩ : ByteArray) ++ X), Value.string ((⟨#[60, 60, 60]⟩ : ByteArray) ++ X), Value.string ((⟨#[61]⟩ : ByteArray) ++ X), Value.string ((⟨#[35]⟩ : ByteArray) ++ X ++ (⟨#[10, 97]⟩ : ByteArray)), Value.string ((⟨#[92, 117, 123, 52]⟩ : ByteArray) ++ X ++ (⟨#[125]⟩ : ByteArray)), Value.string ((⟨#[92, 120, 56]⟩ : ByteArray) ++ X), Value.string ((⟨#[92, 120]⟩ : ByteArray) ++ X ++ (⟨#[102]⟩ : ByteArray)), Value.string ((⟨#[92, 117]⟩ : ByteArray) ++ X ++ (⟨#[52, 49, 125]⟩ : ByteArray)), Value.string ((⟨#[195, 169, 10]⟩ : ByteArray) ++ X ++ (⟨#[10, 93]⟩ : ByteArray)), Value.string ((⟨#[39, 39]⟩ : ByteArray) ++ X ++ (⟨#[39, 39]⟩ : ByteArray))] 9)
theorem egP_cells (w : World) (X : ByteArray) (hX : X.size = 1) : ∀ i, i < 17 → ∃ S, (egPW w X).cell? ⟨w.heap.size, i, none⟩ = some (.string S) ∧ S.size ≤ 100 := by
  intro i hi
  have b : (egPW w X).heap[w.heap.size]? = _ := heap_alloc_new w (.cells (((egP X).map Value.string).toArray) 9)
  rw [cell_of_row _ _ _ _ _ _ b]
  have ha : (egP X).all (fun x => decide (x.size ≤ 100)) = true := by
    simp only [egP, List.all_cons, List.all_nil, ByteArray.size_append, hX]
    rfl
  have hl : (egP X).length = 17 := rfl
  obtain ⟨S, hS⟩ : ∃ S, (egP X)[i]? = some S := ⟨_, List.getElem?_eq_getElem (by omega)⟩
  refine ⟨S, by simp [hS], ?_⟩
  have := List.all_eq_true.1 ha S (List.mem_of_getElem? hS)
  simpa using this
def egS : List ByteArray := ⟨#[92, 117, 123, 49, 48, 102, 102, 102, 102, 125]⟩ :: ⟨#[92, 117, 123, 49, 49, 48, 48, 48, 48, 125]⟩ :: ⟨#[92, 117, 123, 100, 102, 102, 102, 125]⟩ :: ⟨#[92, 117, 123, 101, 48, 48, 48, 125]⟩ :: ⟨#[92, 117, 123, 100, 55, 102, 102, 125]⟩ :: ⟨#[92, 117, 123, 48, 48, 48, 48, 48, 52, 49, 125]⟩ :: ⟨#[92, 117, 123, 48, 48, 48, 48, 52, 49, 125]⟩ :: ⟨#[92, 117, 123, 49]⟩ :: ⟨#[92, 117, 123]⟩ :: ⟨#[92, 117]⟩ :: ⟨#[92, 120]⟩ :: ⟨#[92, 120, 56]⟩ :: ⟨#[92, 195, 169]⟩ :: ⟨#[92, 195]⟩ :: ⟨#[195, 92, 120, 97, 57]⟩ :: ⟨#[92, 120, 99, 51, 92, 120, 97, 57]⟩ :: ⟨#[39, 39, 39, 39]⟩ :: ⟨#[39, 39, 39]⟩ :: ⟨#[39, 97, 39, 39]⟩ :: ⟨#[91, 91, 97, 93, 93]⟩ :: ⟨#[91, 35, 10, 93]⟩ :: ⟨#[91, 13, 10, 9, 32, 97, 32, 9, 32, 98, 93]⟩ :: ⟨#[91, 93]⟩ :: ⟨#[97, 39, 98, 39, 99, 92, 100]⟩ :: ⟨#[45, 42]⟩ :: ⟨#[47, 42]⟩ :: ⟨#[38, 42]⟩ :: ⟨#[61, 42, 42]⟩ :: ⟨#[60, 60, 60, 60, 42]⟩ :: ⟨#[35, 97, 13, 98, 10, 99]⟩ :: ⟨#[35, 13, 42]⟩ :: ⟨#[239, 191, 189]⟩ :: ⟨#[239, 191, 189, 255, 239, 191, 189]⟩ :: ⟨#[226, 128, 141, 244, 143, 191, 191]⟩ :: []
def egSW (w : World) : World := w.alloc (.cells (Value.string ⟨#[92, 117, 123, 49, 48, 102, 102, 102, 102, 125]⟩ :: Value.string ⟨#[92, 117, 123, 49, 49, 48, 48, 48, 48, 125]⟩ :: Value.string ⟨#[92, 117, 123, 100, 102, 102, 102, 125]⟩ :: Value.string ⟨#[92, 117, 123, 101, 48, 48, 48, 125]⟩ :: Value.string ⟨#[92, 117, 123, 100, 55, 102, 102, 125]⟩ :: Value.string ⟨#[92, 117, 123, 48, 48, 48, 48, 48, 52, 49, 125]⟩ :: Value.string ⟨#[92, 117, 123, 48, 48, 48, 48, 52, 49, 125]⟩ :: Value.string ⟨#[92, 117, 123, 49]⟩ :: Value.string ⟨#[92, 117, 123]⟩ :: Value.string ⟨#[92, 117]⟩ :: Value.string ⟨#[92, 120]⟩ :: Value.string ⟨#[92, 120, 56]⟩ :: Value.string ⟨#[92, 195, 169]⟩ :: Value.string ⟨#[92, 195]⟩ :: Value.string ⟨#[195, 92, 120, 97, 57]⟩ :: Value.string ⟨#[92, 120, 99, 51, 92, 120, 97, 57]⟩ :: Value.string ⟨#[39, 39, 39, 39]⟩ :: Value.string ⟨#[39, 39, 39]⟩ :: Value.string ⟨#[39, 97, 39, 39]⟩ :: Value.string ⟨#[91, 91, 97, 93, 93]⟩ :: Value.string ⟨#[91, 35, 10, 93]⟩ :: Value.string ⟨#[91, 13, 10, 9, 32, 97, 32, 9, 32, 98, 93]⟩ :: Value.string ⟨#[91, 93]⟩ :: Value.string ⟨#[97, 39, 98, 39, 99, 92, 100]⟩ :: Value.string ⟨#[45, 42]⟩ :: Value.string ⟨#[47, 42]⟩ :: Value.string ⟨#[38, 42]⟩ :: Value.string ⟨#[61, 42, 42]⟩ :: Value.string ⟨#[60, 60, 60, 60, 42]⟩ :: Value.string ⟨#[35, 97, 13, 98, 10, 99]⟩ :: Value.string ⟨#[35, 13, 42]⟩ :: Value.string ⟨#[239, 191, 189]⟩ :: Value.string ⟨#[239, 191, 189, 255, 239, 191, 189]⟩ :: Value.string ⟨#[226, 128, 141, 244, 143, 191, 191]⟩ :: []).toArray 9)
theorem egS_cells (w : World) : ∀ i, i < 34 → ∃ S, (egSW w).cell? ⟨w.heap.size, i, none⟩ = some (.string S) ∧ S.size ≤ 100 := by
  intro i hi
  have b : (egSW w).heap[w.heap.size]? = _ := heap_alloc_new w (.cells ((egS.map Value.string).toArray) 9)
  rw [cell_of_row _ _ _ _ _ _ b]
  have ha : egS.all (fun x => decide (x.size ≤ 100)) = true := by decide
  have hl : egS.length = 34 := rfl
  obtain ⟨S, hS⟩ : ∃ S, egS[i]? = some S := ⟨_, List.getElem?_eq_getElem (by omega)⟩
  refine ⟨S, by simp [hS], ?_⟩
  have := List.all_eq_true.1 ha S (List.mem_of_getElem? hS)
  simpa using this
def Tr (w : World) : Ending → World → Prop := fun e w' => e = .returned (.bool true) ∧ Below w.heap.size w w'
set_option maxHeartbeats 8000000 in
set_option maxRecDepth 100000 in
theorem edged_any (w : World) (hL : Laid w) : Calls Tryz.prog 15 #[] w (Tr w) := by
  have cS : ∀ (s o : ByteArray) (W : World), s.size ≤ 1000 → o.size ≤ 1000 → Below w.heap.size w W → Calls Tryz.prog 3 #[.string s, .string o] W (Tr W) := fun s o W h1 h2 hb => law_ScanScan W (hL.below hb).1 (hL.below hb).2 s (by omega) o (by omega)
  have cQ : ∀ (s : ByteArray) (W : World), s.size ≤ 1000 → Below w.heap.size w W → Calls Tryz.prog 27 #[.string s] W (Tr W) := fun s W h1 hb => quotelaw_any W (hL.below hb).1 (hL.below hb).2 s (by omega)
  have cK : ∀ (s : ByteArray) (W : World), s.size ≤ 1000 → Below w.heap.size w W → Calls Tryz.prog 28 #[.string s] W (Tr W) := fun s W h1 hb => back_any W (hL.below hb).1 (hL.below hb).2 s (by omega)
  have cN : ∀ (s : ByteArray) (W : World), s.size ≤ 1000 → Below w.heap.size w W → Calls Tryz.prog 29 #[.string s, .int .i64 0] W (Tr W) := fun s W h1 hb => law_ScanNoted W (hL.below hb).1 (hL.below hb).2 s (by omega) 0 (by decide)
  have cP : ∀ (s : ByteArray) (W : World), s.size ≤ 1000 → Below w.heap.size w W → Calls Tryz.prog 30 #[.string s] W (Tr W) := fun s W h1 hb => law_ScanPlaces W (hL.below hb).1 (hL.below hb).2 s (by omega)
  have cB : ∀ (W : World), Below w.heap.size w W → Calls Tryz.prog 31 #[] W (Tr W) := fun W hb => bounds_any W (hL.below hb)
  have HS := Lib.hid cS
  have HQ := Lib.hid cQ
  have HK := Lib.hid cK
  have HN := Lib.hid cN
  have HP := Lib.hid cP
  have HB := Lib.hid cB
  clear cS cQ cK cN cP cB hL
  go_enter Tryz.func15, Tryz.ntmps15
  go_wp2_with fail
  go_loopw [1] (fun cv wr => ∃ c : Nat, cv = .int .i64 c ∧ c ≤ 256 ∧ Below w.heap.size w wr) (fun v _ => 256 - (intOf v).toNat)
  case atStart => exact ⟨0, rfl, Nat.zero_le _, Below.refl _ _⟩
  case round =>
    obtain ⟨c, rfl, hc, hb⟩ := hrel
    obtain ⟨wo, rfl⟩ : ∃ wo, wo = wr := ⟨wr, rfl⟩
    by_cases hlt : c < 256
    · have hli : (c : Int) < 256 := by omega
      obtain ⟨V, hV⟩ : ∃ V, wo.alloc (.cells #[.int .u8 (c : Int)] 5) = V := ⟨_, rfl⟩
      have hv := conv_wrap wo c hlt
      obtain ⟨X, hX⟩ : ∃ X, ba [UInt8.ofNat c] = X := ⟨_, rfl⟩
      have zX : X.size = 1 := by rw [← hX]; rfl
      rw [hX, hV] at hv
      have hbV : Below w.heap.size w V := by rw [← hV]; exact hb.alloc hb.size _
      have hcl := egP_cells V X zX
      have hbE : Below w.heap.size w (egPW V X) := hbV.alloc hbV.size _
      have hsE : (egPW V X).heap.size = V.heap.size + 1 := by simp [egPW]
      have Hcl := Lib.hid hcl
      have HbE := Lib.hid hbE
      have HsE := Lib.hid hsE
      clear hb hbV hcl hbE hsE hX
      go_wp2_with fail
      go_loopw [4] (fun iv W2 => ∃ i : Nat, iv = .int .i64 i ∧ i ≤ 17 ∧ Below (egPW V X).heap.size (egPW V X) W2) (fun v _ => 17 - (intOf v).toNat)
      case atStart => subst hV; exact ⟨0, rfl, Nat.zero_le _, (show Below (egPW _ X).heap.size (egPW _ X) (egPW _ X) from Below.refl _ _)⟩
      case round =>
        obtain ⟨i, rfl, hi, hb⟩ := hrel
        by_cases hilt : i < 17
        · have hili : (i : Int) < 17 := by omega
          obtain ⟨S, k1, z1⟩ := Hcl.out i hilt
          have hs3 := HsE.out
          have K := Lib.hid (fun (W : World) (hW : Below (egPW V X).heap.size (egPW V X) W) => (hW.cell (p := ⟨V.heap.size, i, none⟩) (by show V.heap.size < _; omega)).trans k1)
          have Hb := Lib.hid hb
          have x1 := K.out wr hb
          have cC := HS.out S ⟨#[38, 32, 97]⟩ wr (by omega) (by decide) (HbE.out.trans (hb.mono HbE.out.size))
          clear hb k1 hs3
          go_wp2_with fail
          refine cC.mono ?_
          rintro e w4 ⟨rfl, hb4⟩
          have hb := Hb.out.trans (hb4.mono Hb.out.size)
          have Hb := Lib.hid hb
          have x1 := K.out w4 hb
          have cC := HQ.out S w4 (by omega) (HbE.out.trans (hb.mono HbE.out.size))
          clear hb hb4
          go_wp2_with fail
          refine cC.mono ?_
          rintro e w5 ⟨rfl, hb4⟩
          have hb := Hb.out.trans (hb4.mono Hb.out.size)
          have Hb := Lib.hid hb
          have x1 := K.out w5 hb
          have cC := HK.out S w5 (by omega) (HbE.out.trans (hb.mono HbE.out.size))
          clear hb hb4
          go_wp2_with fail
          refine cC.mono ?_
          rintro e w6 ⟨rfl, hb4⟩
          have Hb := Lib.hid (Hb.out.trans (hb4.mono Hb.out.size))
          clear hb4 x1 cC
          go_wp2_with fail
          go_roundw
          case rel => exact ⟨i + 1, by go_num, by omega, Hb.out⟩
          case measure => simp [intOf]; omega
        · obtain rfl : i = 17 := by omega
          have HB2 := Lib.hid (HbE.out.trans (hb.mono HbE.out.size))
          clear hb
          go_wp2_with fail
          go_roundw
          case rel => exact ⟨c + 1, by go_num, by omega, HB2.out⟩
          case measure => simp [intOf]; omega
    · obtain rfl : c = 256 := by omega
      have Hb := Lib.hid hb
      clear hb
      have hcl := egS_cells wo
      have hbE : Below w.heap.size w (egSW wo) := Hb.out.alloc Hb.out.size _
      have hsE : (egSW wo).heap.size = wo.heap.size + 1 := by simp [egSW]
      have Hcl := Lib.hid hcl
      have HbE := Lib.hid hbE
      have HsE := Lib.hid hsE
      clear hcl hbE hsE
      go_wp2_with fail
      go_loopw [6] (fun iv W2 => ∃ i : Nat, iv = .int .i64 i ∧ i ≤ 34 ∧ Below (egSW wo).heap.size (egSW wo) W2) (fun v _ => 34 - (intOf v).toNat)
      case atStart => exact ⟨0, rfl, Nat.zero_le _, (show Below (egSW wo).heap.size (egSW wo) (egSW wo) from Below.refl _ _)⟩
      case round =>
        obtain ⟨i, rfl, hi, hb⟩ := hrel
        by_cases hilt : i < 34
        · have hili : (i : Int) < 34 := by omega
          obtain ⟨S, k1, z1⟩ := Hcl.out i hilt
          obtain ⟨S0, k0, z0⟩ := Hcl.out 0 (by decide)
          have hs3 := HsE.out
          have K := Lib.hid (fun (W : World) (hW : Below (egSW wo).heap.size (egSW wo) W) => (hW.cell (p := ⟨wo.heap.size, i, none⟩) (by show wo.heap.size < _; omega)).trans k1)
          have K0 := Lib.hid (fun (W : World) (hW : Below (egSW wo).heap.size (egSW wo) W) => (hW.cell (p := ⟨wo.heap.size, 0, none⟩) (by show wo.heap.size < _; omega)).trans k0)
          have kd : ∀ W : World, Below (egSW wo).heap.size (egSW wo) W → W.cell? ⟨wo.heap.size, i, none⟩ = some (.string S) ∧ W.cell? ⟨wo.heap.size, 0, none⟩ = some (.string S0) ∧ Below (egSW wo).heap.size (egSW wo) W := fun W h => ⟨K.out W h, K0.out W h, h⟩
          have R : ∀ (f : Nat) (vs : Array Value) (W : World), Below (egSW wo).heap.size (egSW wo) W → Calls Tryz.prog f vs W (Tr W) → Calls Tryz.prog f vs W (fun e w' => e = .returned (.bool true) ∧ Below (egSW wo).heap.size (egSW wo) w') := fun f vs W h c => c.mono (fun e w' hx => ⟨hx.1, h.trans (hx.2.mono h.size)⟩)
          obtain ⟨S1, hS1⟩ : ∃ S1, (⟨#[195, 169, 10]⟩ : ByteArray) ++ S = S1 := ⟨_, rfl⟩
          obtain ⟨S2, hS2⟩ : ∃ S2, S1 ++ ⟨#[32, 120]⟩ = S2 := ⟨_, rfl⟩
          have y1 : S1.size ≤ 200 := by
            rw [← hS1, ByteArray.size_append]
            show 3 + S.size ≤ 200
            omega
          have z2 : S2.size ≤ 1000 := by
            rw [← hS2, ByteArray.size_append]
            show S1.size + 2 ≤ 1000
            omega
          have f1 : ¬ (9223372036854775807 < 3 + S.size) := by omega
          have f2 : ¬ (9223372036854775807 < S1.size + 2) := by omega
          have f3 : ¬ (9223372036854775807 < (⟨#[195, 169, 10]⟩ : ByteArray).size + S.size) := by show ¬ (9223372036854775807 < 3 + S.size); omega
          have f4 : ¬ (9223372036854775804 < S.size) := by omega
          have f5 : ¬ (9223372036854775805 < S1.size) := by omega
          have f6 : ¬ (9223372036854775807 < S1.size + (⟨#[32, 120]⟩ : ByteArray).size) := by show ¬ (9223372036854775807 < S1.size + 2); omega
          have E0 : ∀ W, Below (egSW wo).heap.size (egSW wo) W → Below w.heap.size w W := fun W h => HbE.out.trans (h.mono HbE.out.size)
          have c1 := fun W h => R _ _ W h (HS.out S S0 W (by omega) (by omega) (E0 W h))
          have c2 := fun W h => R _ _ W h (HQ.out S W (by omega) (E0 W h))
          have c3 := fun W h => R _ _ W h (HK.out S W (by omega) (E0 W h))
          have c4 := fun W h => R _ _ W h (HS.out S2 ⟨#[]⟩ W z2 (by decide) (E0 W h))
          have c5 := fun W h => R _ _ W h (HN.out S W (by omega) (E0 W h))
          have c6 := fun W h => R _ _ W h (HP.out S W (by omega) (E0 W h))
          have C1 := Lib.hid c1
          have C2 := Lib.hid c2
          have C3 := Lib.hid c3
          have C4 := Lib.hid c4
          have C5 := Lib.hid c5
          have C6 := Lib.hid c6
          have hE := hb.drew
          clear hb k1 k0 hs3 c1 c2 c3 c4 c5 c6 R E0 z2 y1 K K0
          go_wp2_with fail
          refine Code.wp_mono (Q := NoPanic _) NoPanic.imp ?_
          go_region_held3 (fun W => W.cell? ⟨wo.heap.size, i, none⟩ = some (.string S) ∧ W.cell? ⟨wo.heap.size, 0, none⟩ = some (.string S0) ∧ Below (egSW wo).heap.size (egSW wo) W) (first | exact kd _ hE | exact kd _ (by assumption))
            (first
            | (go_at_call 27; have hh := h3; refine (C2.out _ hh).mono ?_; rintro e w4 ⟨rfl, h4⟩; clear hh)
            | (go_at_call 28; have hh := h4; refine (C3.out _ hh).mono ?_; rintro e w5 ⟨rfl, h5⟩; clear hh)
            | (go_at_call 29; have hh := h6; refine (C5.out _ hh).mono ?_; rintro e w7 ⟨rfl, h7⟩; clear hh)
            | (go_at_call 30; have hh := h7; refine (C6.out _ hh).mono ?_; rintro e w8 ⟨rfl, h8⟩; clear hh)
            | (go_at_call 3; have hh := h5; refine (C4.out _ hh).mono ?_; rintro e w6 ⟨rfl, h6⟩; clear hh)
            | (go_at_call 3; have hh := hE; refine (C1.out _ hh).mono ?_; rintro e w3 ⟨rfl, h3⟩; clear hh))
          all_goals
            refine NoPanic.normal ?_
            have H8 := Lib.hid h8
            clear h3 h4 h5 h6 h7 h8 hE
            clear f1 f2 f3 f4 f5 f6 hS1 hS2
            go_wp2_with fail
            go_roundw
            case rel =>
              repeat apply Exists.intro
              refine ⟨?_, rfl⟩
              exact ⟨i + 1, by go_num, by omega, H8.out⟩
            case measure => simp [intOf]; omega
        · obtain rfl : i = 34 := by omega
          have hb2 := HbE.out.trans (hb.mono HbE.out.size)
          have HB2 := Lib.hid hb2
          have cC := HB.out wr hb2
          clear hb hb2
          go_wp2_with fail
          refine cC.mono ?_
          rintro e w3 ⟨rfl, hb4⟩
          have HB3 := Lib.hid (HB2.out.trans (hb4.mono HB2.out.size))
          clear hb4
          go_wp2_with fail
          go_ret
          exact ⟨rfl, HB3.out⟩
set_option maxHeartbeats 4000000 in
set_option maxRecDepth 100000 in
theorem law_ScanKnown (w : World) (hT : Lib.Utf8Tabs 2 3 w) (hE : HE w) :
    Calls Tryz.prog 4 #[] w fun e w' => e = .returned (.bool true) ∧ Below w.heap.size w w' := by
  have hL : Laid w := ⟨hT, hE⟩
  have hB := Below.refl w.heap.size w
  clear hT hE
  go_enter Tryz.func4, Tryz.ntmps4
  go_wp2_with fail
  refine (shown_any _ (hL.below hB)).mono ?_
  rintro e w1 ⟨rfl, hb⟩
  replace hB := hB.trans (hb.mono hB.size)
  clear hb
  go_wp2_with fail
  refine (refused_any _ (hL.below hB)).mono ?_
  rintro e w2 ⟨rfl, hb⟩
  replace hB := hB.trans (hb.mono hB.size)
  clear hb
  go_wp2_with fail
  refine (edged_any _ (hL.below hB)).mono ?_
  rintro e w3 ⟨rfl, hb⟩
  have HB := Lib.hid (hB.trans (hb.mono hB.size))
  clear hb hB
  go_wp2_with fail
  go_ret
  exact ⟨rfl, HB.out⟩
end Go.Proofs.YtekoeobfddfgpaaGreatDoor.C
