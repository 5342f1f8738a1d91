/-
  Of this seat's texts what the claim wants (printed by a program): JT.
-/
import Derived.Test.YtlomjbfhalmalaaGreatDoorqJ1
import Derived.Test.YtlomjbfhalmalaaGreatDoorqPAllx
set_option linter.unusedVariables false
set_option linter.unusedSimpArgs false
namespace Go.Proofs.YtlomjbfhalmalaaGreatDoor.C
open Go Go.RowKit Go.Proofs.YtlomjbfhalmalaaGreatDoor.M
end Go.Proofs.YtlomjbfhalmalaaGreatDoor.C
set_option linter.unusedVariables false
set_option linter.unusedSimpArgs false
namespace Go.Proofs.YtlomjbfhalmalaaGreatDoor.C
open Go Go.RowKit Go.Proofs.YtlomjbfhalmalaaGreatDoor.M
end Go.Proofs.YtlomjbfhalmalaaGreatDoor.C
set_option linter.unusedVariables false
set_option linter.unusedSimpArgs false
namespace Go.Proofs.YtlomjbfhalmalaaGreatDoor.C
open Go Go.RowKit Go.Proofs.YtlomjbfhalmalaaGreatDoor.M
end Go.Proofs.YtlomjbfhalmalaaGreatDoor.C
set_option linter.unusedVariables false
set_option linter.unusedSimpArgs false
namespace Go.Proofs.YtlomjbfhalmalaaGreatDoor.C
open Go Go.RowKit Go.Proofs.YtlomjbfhalmalaaGreatDoor.M Go.Proofs.YtlomjbfhalmalaaGreatDoor.PAll Go.Proofs.YtlomjbfhalmalaaGreatDoorW.PrintWords
theorem bt_eq {s : ByteArray} {p : Nat} (h : p < s.size) : Go.Proofs.YtlomjbfhalmalaaGreatDoorW.PrintWords.bt s (p : Int) = (b0 ((bl s).drop p) : Nat) := by
  unfold Go.Proofs.YtlomjbfhalmalaaGreatDoorW.PrintWords.bt
  rw [Int.toNat_natCast, dif_pos h, byte_at h]
theorem b0_drop (l : List UInt8) (p j : Nat) : b0 (l.drop (p + j)) = ((l.drop p).getD j 0).toNat := by
  unfold b0
  rw [Lib.getD_dropU, Lib.getD_dropU]; rfl
theorem long_at (k : Nat) (c : Int) (h0 : 0 ≤ c) (h1 : c ≤ 255) : glossaryref02_long.f (k + 2) c =
    some (if c < 128 then (1, c) else if 192 ≤ c ∧ c < 224 then (2, c - 192) else if 224 ≤ c ∧ c < 240 then (3, c - 224) else if 240 ≤ c ∧ c < 248 then (4, c - 240) else (0, 0)) := by
  unfold glossaryref02_long.f
  simp only [glossaryref02_long.j0, glossaryref02_long.j1, ge_iff_le, gt_iff_lt]
  repeat' split
  all_goals first | (exfalso; omega) | (simp at *; done) | (simp at *; omega) | (rw [w64 (by omega) (by omega)])
section
variable (s : ByteArray) (p : Nat) (hs : s.size ≤ 140737488351232)
def by_ (s : ByteArray) (p j : Nat) : Nat := (((bl s).drop p).getD j 0).toNat
theorem by_lt (s : ByteArray) (p j : Nat) : by_ s p j < 256 := u8_lt _
theorem bt_by {s : ByteArray} {p j : Nat} (h : p + j < s.size) : Go.Proofs.YtlomjbfhalmalaaGreatDoorW.PrintWords.bt s ((p : Int) + (j : Int)) = (by_ s p j : Nat) := by
  have := bt_eq (s := s) (p := p + j) h
  rw [b0_drop] at this
  rw [← Int.natCast_add]
  exact this
include hs in
theorem nx_step (k j : Nat) (n : Int) (v : Int) (hj : (j : Int) < n) (hp : p + j < s.size) (hv0 : -1000000 ≤ v) (hv1 : v ≤ 1000000000000) :
    glossaryref02_Next.l0 (k + 1) s p n v true j = glossaryref02_Next.l0 k s p n (v * 64 + (by_ s p j : Nat) - 128) (decide (128 ≤ by_ s p j ∧ by_ s p j < 192)) ((j + 1 : Nat) : Int) := by
  have hb := by_lt s p j
  have hbt := bt_by hp
  have e1 : wrap64 ((p : Int) + j) = (p : Int) + j := w64 (by omega) (by omega)
  simp only [glossaryref02_Next.l0]
  rw [if_pos hj, if_pos trivial, e1, if_pos (by omega), if_pos (by omega), hbt]
  rw [w64 (x := ((by_ s p j : Nat) : Int)) (by omega) (by omega), w64 (x := v * 64) (by omega) (by omega), w64 (x := v * 64 + _) (by omega) (by omega), w64 (x := v * 64 + _ - 128) (by omega) (by omega), w64 (x := (j : Int) + 1) (by omega) (by omega)]
  have e2 : ((j + 1 : Nat) : Int) = (j : Int) + 1 := by omega
  rw [e2]
  by_cases h : 128 ≤ by_ s p j
  · rw [if_pos (by omega)]
    have ed : decide (((by_ s p j : Nat) : Int) < 192) = decide (128 ≤ by_ s p j ∧ by_ s p j < 192) := by
      rw [decide_eq_decide]; omega
    rw [ed]
  · rw [if_neg (by omega), decide_eq_false (p := 128 ≤ by_ s p j ∧ by_ s p j < 192) (by omega)]
theorem nx_end (k : Nat) (j n v : Int) (ok : Bool) (h : n ≤ j ∨ ok = false) : glossaryref02_Next.l0 (k + 1) s p n v ok j = glossaryref02_Next.j3 k s p n v ok := by
  simp only [glossaryref02_Next.l0]
  by_cases hj : j < n
  · rw [if_pos hj]
    have : ok = false := by rcases h with h | h; omega; exact h
    rw [this]; simp
  · rw [if_neg hj]
theorem nx_bad (k : Nat) (n v : Int) (hp : p < s.size) (ok : Bool) (h : ok = true → v < (if n = 1 then 0 else if n = 2 then 128 else if n = 3 then 2048 else 65536) ∨ ¬ (0 ≤ v ∧ v < 55296 ∨ 57343 < v ∧ v ≤ 1114111)) :
    glossaryref02_Next.j3 (k + 1) s p n v ok = some (((1114112 + by_ s p 0 : Nat) : Int), 1) := by
  have hb := by_lt s p 0
  have hbt : Go.Proofs.YtlomjbfhalmalaaGreatDoorW.PrintWords.bt s (p : Int) = (by_ s p 0 : Nat) := by have := bt_by (s := s) (p := p) (j := 0) (by omega); simpa using this
  have e : wrap32 (wrap64 (1114112 + wrap64 (Go.Proofs.YtlomjbfhalmalaaGreatDoorW.PrintWords.bt s (p : Int)))) = ((1114112 + by_ s p 0 : Nat) : Int) := by
    rw [hbt, w64 (x := ((by_ s p 0 : Nat) : Int)) (by omega) (by omega), w64 (by omega) (by omega), w32 (by omega) (by omega)]
    omega
  simp only [glossaryref02_Next.j3, least_at, char_at, Option.bind_some, e]
  rw [if_pos (show (0 : Int) ≤ p by omega), if_pos (show (p : Int) < s.size by omega)]
  cases ok with
  | false => simp
  | true =>
    rw [if_pos rfl]
    by_cases hv : v < (if n = 1 then 0 else if n = 2 then 128 else if n = 3 then 2048 else 65536)
    · rw [if_pos hv]
    · rw [if_neg hv]
      rcases h rfl with h | h
      · exact absurd h hv
      · rw [decide_eq_false h]; simp
theorem nx_good (k : Nat) (n v : Int) (h1 : ¬ v < (if n = 1 then 0 else if n = 2 then 128 else if n = 3 then 2048 else 65536)) (h2 : 0 ≤ v ∧ v < 55296 ∨ 57343 < v ∧ v ≤ 1114111) :
    glossaryref02_Next.j3 (k + 1) s p n v true = some (v, n) := by
  simp only [glossaryref02_Next.j3, least_at, char_at, Option.bind_some]
  rw [if_pos trivial, if_neg h1, decide_eq_true h2, if_pos rfl, w32 (by omega) (by omega)]
end
theorem dec_by (s : ByteArray) (p : Nat) : (dc ((bl s).drop p), dw ((bl s).drop p)) = Lib.decodeN (s.size - p) (by_ s p 0) (by_ s p 1) (by_ s p 2) (by_ s p 3) := by
  have := Lib.decodeL_N ((bl s).drop p)
  unfold dc dw
  rw [this, List.length_drop, bl_len]
  rfl
section
variable (s : ByteArray) (p : Nat) (hs : s.size ≤ 140737488351232) (hp : p < s.size)
def ans (s : ByteArray) (p x n : Nat) (c : Prop) [Decidable c] : Option (Int × Int) := some (if c then ((x : Int), (n : Int)) else (((1114112 + by_ s p 0 : Nat) : Int), 1))
theorem ans_yes {x n : Nat} {c : Prop} [Decidable c] (h : c) : ans s p x n c = some ((x : Int), (n : Int)) := by simp [ans, h]
theorem ans_no {x n : Nat} {c : Prop} [Decidable c] (h : ¬ c) : ans s p x n c = some (((1114112 + by_ s p 0 : Nat) : Int), 1) := by simp [ans, h]
theorem nx1 (k : Nat) (q : by_ s p 0 < 128) : glossaryref02_Next.l0 (k + 9 + 1) s p 1 (by_ s p 0 : Nat) true ((1 : Nat) : Int) = ans s p (by_ s p 0) 1 True := by
  rw [ans_yes s p trivial, nx_end s p (k + 9) _ _ _ _ (.inl (by omega)), nx_good s p (k + 8) _ _ (by rw [if_pos rfl]; omega) (by omega)]
  rfl
def x2 (a b : Nat) : Nat := a % 32 * 64 + b % 64
include hs hp in
theorem nx2 (k : Nat) (q : 192 ≤ by_ s p 0 ∧ by_ s p 0 < 224) : glossaryref02_Next.l0 (k + 9 + 1) s p 2 ((by_ s p 0 : Nat) - 192) (decide (2 ≤ s.size - p)) ((1 : Nat) : Int) =
    ans s p (x2 (by_ s p 0) (by_ s p 1)) 2 (2 ≤ s.size - p ∧ (128 ≤ by_ s p 1 ∧ by_ s p 1 < 192) ∧ 128 ≤ x2 (by_ s p 0) (by_ s p 1)) := by
  have hb1 := by_lt s p 1
  by_cases z : 2 ≤ s.size - p
  · rw [decide_eq_true z, nx_step s p hs (k + 9) 1 _ _ (by omega) (by omega) (by omega) (by omega), nx_end s p (k + 8) _ _ _ _ (.inl (by omega))]
    by_cases y : 128 ≤ by_ s p 1 ∧ by_ s p 1 < 192
    · rw [decide_eq_true y]
      have e : ((by_ s p 0 : Nat) : Int) - 192 = ((by_ s p 0 % 32 : Nat) : Int) := by omega
      have e2 : ((by_ s p 0 : Nat) - 192 : Int) * 64 + ((by_ s p 1 : Nat) : Int) - 128 = ((x2 (by_ s p 0) (by_ s p 1) : Nat) : Int) := by unfold x2; omega
      rw [e2]
      have hx : x2 (by_ s p 0) (by_ s p 1) < 2048 := by unfold x2; omega
      by_cases x : 128 ≤ x2 (by_ s p 0) (by_ s p 1)
      · rw [ans_yes s p ⟨z, y, x⟩, nx_good s p (k + 7) _ _ (by simp; omega) (by omega)]
        rfl
      · rw [ans_no s p (fun h => x h.2.2), nx_bad s p (k + 7) _ _ hp _ (fun _ => .inl (by simp; omega))]
    · rw [decide_eq_false y, ans_no s p (fun h => y h.2.1), nx_bad s p (k + 7) _ _ hp _ (fun h => by cases h)]
  · rw [decide_eq_false z, ans_no s p (fun h => z h.1), nx_end s p (k + 9) _ _ _ _ (.inr rfl), nx_bad s p (k + 8) _ _ hp _ (fun h => by cases h)]
def x3 (a b c : Nat) : Nat := a % 16 * 4096 + b % 64 * 64 + c % 64
include hs hp in
theorem nx3 (k : Nat) (q : 224 ≤ by_ s p 0 ∧ by_ s p 0 < 240) : glossaryref02_Next.l0 (k + 9 + 1) s p 3 ((by_ s p 0 : Nat) - 224) (decide (3 ≤ s.size - p)) ((1 : Nat) : Int) =
    ans s p (x3 (by_ s p 0) (by_ s p 1) (by_ s p 2)) 3 (3 ≤ s.size - p ∧ (128 ≤ by_ s p 1 ∧ by_ s p 1 < 192) ∧ (128 ≤ by_ s p 2 ∧ by_ s p 2 < 192) ∧ 2048 ≤ x3 (by_ s p 0) (by_ s p 1) (by_ s p 2) ∧ chr (x3 (by_ s p 0) (by_ s p 1) (by_ s p 2))) := by
  have hb1 := by_lt s p 1
  have hb2 := by_lt s p 2
  by_cases z : 3 ≤ s.size - p
  · rw [decide_eq_true z, nx_step s p hs (k + 9) 1 _ _ (by omega) (by omega) (by omega) (by omega)]
    by_cases y : 128 ≤ by_ s p 1 ∧ by_ s p 1 < 192
    · rw [decide_eq_true y, nx_step s p hs (k + 8) 2 _ _ (by omega) (by omega) (by omega) (by omega), nx_end s p (k + 7) _ _ _ _ (.inl (by omega))]
      by_cases y2 : 128 ≤ by_ s p 2 ∧ by_ s p 2 < 192
      · rw [decide_eq_true y2]
        have e2 : (((by_ s p 0 : Nat) - 224 : Int) * 64 + ((by_ s p 1 : Nat) : Int) - 128) * 64 + ((by_ s p 2 : Nat) : Int) - 128 = ((x3 (by_ s p 0) (by_ s p 1) (by_ s p 2) : Nat) : Int) := by unfold x3; omega
        rw [e2]
        by_cases x : 2048 ≤ x3 (by_ s p 0) (by_ s p 1) (by_ s p 2) ∧ chr (x3 (by_ s p 0) (by_ s p 1) (by_ s p 2))
        · rw [ans_yes s p ⟨z, y, y2, x⟩, nx_good s p (k + 6) _ _ (by simp; omega) (by have := x.2; unfold chr at this; omega)]
          rfl
        · rw [ans_no s p (fun h => x h.2.2.2), nx_bad s p (k + 6) _ _ hp _ (fun _ => by unfold chr at x; simp; omega)]
      · rw [decide_eq_false y2, ans_no s p (fun h => y2 h.2.2.1), nx_bad s p (k + 6) _ _ hp _ (fun h => by cases h)]
    · rw [decide_eq_false y, ans_no s p (fun h => y h.2.1), nx_end s p (k + 8) _ _ _ _ (.inr rfl), nx_bad s p (k + 7) _ _ hp _ (fun h => by cases h)]
  · rw [decide_eq_false z, ans_no s p (fun h => z h.1), nx_end s p (k + 9) _ _ _ _ (.inr rfl), nx_bad s p (k + 8) _ _ hp _ (fun h => by cases h)]
def x4 (a b c d : Nat) : Nat := a % 8 * 262144 + b % 64 * 4096 + c % 64 * 64 + d % 64
include hs hp in
theorem nx4 (k : Nat) (q : 240 ≤ by_ s p 0 ∧ by_ s p 0 < 248) : glossaryref02_Next.l0 (k + 9 + 1) s p 4 ((by_ s p 0 : Nat) - 240) (decide (4 ≤ s.size - p)) ((1 : Nat) : Int) =
    ans s p (x4 (by_ s p 0) (by_ s p 1) (by_ s p 2) (by_ s p 3)) 4 (4 ≤ s.size - p ∧ (128 ≤ by_ s p 1 ∧ by_ s p 1 < 192) ∧ (128 ≤ by_ s p 2 ∧ by_ s p 2 < 192) ∧ (128 ≤ by_ s p 3 ∧ by_ s p 3 < 192) ∧ 65536 ≤ x4 (by_ s p 0) (by_ s p 1) (by_ s p 2) (by_ s p 3) ∧ chr (x4 (by_ s p 0) (by_ s p 1) (by_ s p 2) (by_ s p 3))) := by
  have hb1 := by_lt s p 1
  have hb2 := by_lt s p 2
  have hb3 := by_lt s p 3
  by_cases z : 4 ≤ s.size - p
  · rw [decide_eq_true z, nx_step s p hs (k + 9) 1 _ _ (by omega) (by omega) (by omega) (by omega)]
    by_cases y : 128 ≤ by_ s p 1 ∧ by_ s p 1 < 192
    · rw [decide_eq_true y, nx_step s p hs (k + 8) 2 _ _ (by omega) (by omega) (by omega) (by omega)]
      by_cases y2 : 128 ≤ by_ s p 2 ∧ by_ s p 2 < 192
      · rw [decide_eq_true y2, nx_step s p hs (k + 7) 3 _ _ (by omega) (by omega) (by omega) (by omega), nx_end s p (k + 6) _ _ _ _ (.inl (by omega))]
        by_cases y3 : 128 ≤ by_ s p 3 ∧ by_ s p 3 < 192
        · rw [decide_eq_true y3]
          have e2 : ((((by_ s p 0 : Nat) - 240 : Int) * 64 + ((by_ s p 1 : Nat) : Int) - 128) * 64 + ((by_ s p 2 : Nat) : Int) - 128) * 64 + ((by_ s p 3 : Nat) : Int) - 128 = ((x4 (by_ s p 0) (by_ s p 1) (by_ s p 2) (by_ s p 3) : Nat) : Int) := by unfold x4; omega
          rw [e2]
          by_cases x : 65536 ≤ x4 (by_ s p 0) (by_ s p 1) (by_ s p 2) (by_ s p 3) ∧ chr (x4 (by_ s p 0) (by_ s p 1) (by_ s p 2) (by_ s p 3))
          · rw [ans_yes s p ⟨z, y, y2, y3, x⟩, nx_good s p (k + 5) _ _ (by simp; omega) (by have := x.2; unfold chr at this; omega)]
            rfl
          · rw [ans_no s p (fun h => x h.2.2.2.2), nx_bad s p (k + 5) _ _ hp _ (fun _ => by unfold chr at x; simp; omega)]
        · rw [decide_eq_false y3, ans_no s p (fun h => y3 h.2.2.2.1), nx_bad s p (k + 5) _ _ hp _ (fun h => by cases h)]
      · rw [decide_eq_false y2, ans_no s p (fun h => y2 h.2.2.1), nx_end s p (k + 7) _ _ _ _ (.inr rfl), nx_bad s p (k + 6) _ _ hp _ (fun h => by cases h)]
    · rw [decide_eq_false y, ans_no s p (fun h => y h.2.1), nx_end s p (k + 8) _ _ _ _ (.inr rfl), nx_bad s p (k + 7) _ _ hp _ (fun h => by cases h)]
  · rw [decide_eq_false z, ans_no s p (fun h => z h.1), nx_end s p (k + 9) _ _ _ _ (.inr rfl), nx_bad s p (k + 8) _ _ hp _ (fun h => by cases h)]
end
theorem dN1 {n a b c d : Nat} (h : a < 128) : Lib.decodeN n a b c d = (a, 1) := by unfold Lib.decodeN; rw [if_pos h]
theorem dN2 {n a b c d : Nat} (h : 192 ≤ a ∧ a < 224) (hb : b < 256) : Lib.decodeN n a b c d = if 2 ≤ n ∧ (128 ≤ b ∧ b < 192) ∧ 128 ≤ x2 a b then (x2 a b, 2) else (65533, 1) := by
  unfold Lib.decodeN x2
  rw [if_neg (by omega)]
  by_cases q : a / 32 = 6 ∧ 1 < n ∧ b / 64 = 2
  · rw [if_pos q]
    by_cases x : a % 32 * 64 + b % 64 ≥ 128
    · rw [if_pos x, if_pos (by omega)]
    · rw [if_neg x, if_neg (by omega)]
  · rw [if_neg q, if_neg (by omega), if_neg (by omega), if_neg (by omega)]
theorem dN3 {n a b c d : Nat} (h : 224 ≤ a ∧ a < 240) (hb : b < 256) (hc : c < 256) : Lib.decodeN n a b c d = if 3 ≤ n ∧ (128 ≤ b ∧ b < 192) ∧ (128 ≤ c ∧ c < 192) ∧ 2048 ≤ x3 a b c ∧ chr (x3 a b c) then (x3 a b c, 3) else (65533, 1) := by
  unfold Lib.decodeN
  rw [if_neg (by omega), if_neg (by omega)]
  change (if _ then (if (x3 a b c ≥ 2048 ∧ chr (x3 a b c)) then (x3 a b c, 3) else (65533, 1)) else _) = _
  by_cases q : a / 16 = 14 ∧ (1 < n ∧ b / 64 = 2) ∧ 2 < n ∧ c / 64 = 2
  · rw [if_pos q]
    by_cases x : 2048 ≤ x3 a b c ∧ chr (x3 a b c)
    · rw [if_pos x, if_pos ⟨by omega, by omega, by omega, x⟩]
    · rw [if_neg x, if_neg (fun h => x h.2.2.2)]
  · rw [if_neg q, if_neg (by omega), if_neg (fun h => q (by omega))]
theorem dN4 {n a b c d : Nat} (h : 240 ≤ a ∧ a < 248) (hb : b < 256) (hc : c < 256) (hd : d < 256) : Lib.decodeN n a b c d = if 4 ≤ n ∧ (128 ≤ b ∧ b < 192) ∧ (128 ≤ c ∧ c < 192) ∧ (128 ≤ d ∧ d < 192) ∧ 65536 ≤ x4 a b c d ∧ chr (x4 a b c d) then (x4 a b c d, 4) else (65533, 1) := by
  unfold Lib.decodeN
  rw [if_neg (by omega), if_neg (by omega), if_neg (by omega)]
  change (if _ then (if (x4 a b c d ≥ 65536 ∧ chr (x4 a b c d)) then (x4 a b c d, 4) else (65533, 1)) else _) = _
  by_cases q : a / 8 = 30 ∧ (1 < n ∧ b / 64 = 2) ∧ (2 < n ∧ c / 64 = 2) ∧ 3 < n ∧ d / 64 = 2
  · rw [if_pos q]
    by_cases x : 65536 ≤ x4 a b c d ∧ chr (x4 a b c d)
    · rw [if_pos x, if_pos ⟨by omega, by omega, by omega, by omega, x⟩]
    · rw [if_neg x, if_neg (fun h => x h.2.2.2.2)]
  · rw [if_neg q, if_neg (fun h => q (by omega))]
theorem dN0 {n a b c d : Nat} (h : 128 ≤ a) (h2 : a < 192 ∨ 248 ≤ a) (ha : a < 256) : Lib.decodeN n a b c d = (65533, 1) := by
  unfold Lib.decodeN
  rw [if_neg (by omega), if_neg (by omega), if_neg (by omega), if_neg (by omega)]
def pw (s : ByteArray) (p : Nat) (D : Nat × Nat) : Option (Int × Int) := some ((((if D.1 = 65533 ∧ D.2 = 1 then 1114112 + by_ s p 0 else D.1 : Nat) : Int)), ((D.2 : Nat) : Int))
theorem pw_ans (s : ByteArray) (p x n : Nat) (c : Prop) [Decidable c] (h : c → ¬ (x = 65533 ∧ n = 1)) : ans s p x n c = pw s p (if c then (x, n) else (65533, 1)) := by
  by_cases hc : c
  · rw [ans_yes s p hc, if_pos hc]
    unfold pw
    simp only []
    rw [if_neg (h hc)]
  · rw [ans_no s p hc, if_neg hc]
    simp [pw]
theorem j0_pos (s : ByteArray) (p : Nat) (hp : p < s.size) (k : Nat) (n v : Int) (h : glossaryref02_long.f (k + 9 + 2) (by_ s p 0 : Nat) = some (n, v)) (hn : n > 0) (m : Nat) (e : n = m) (hm : m ≤ 4) (hs : s.size ≤ 140737488351232) :
    glossaryref02_Next.j0 (k + 9 + 2 + 1) s p false = glossaryref02_Next.l0 (k + 9 + 1) s p n v (decide (m ≤ s.size - p)) ((1 : Nat) : Int) := by
  have hb0 := by_lt s p 0
  have hbt : Go.Proofs.YtlomjbfhalmalaaGreatDoorW.PrintWords.bt s (p : Int) = (by_ s p 0 : Nat) := by have := bt_by (s := s) (p := p) (j := 0) (by omega); simpa using this
  simp only [glossaryref02_Next.j0]
  rw [if_neg (by simp), if_pos (by omega), if_pos (by omega), hbt, w64 (x := ((by_ s p 0 : Nat) : Int)) (by omega) (by omega), h]
  show (if n > 0 then glossaryref02_Next.j1 (k + 9 + 2) s p n v (decide (wrap64 ((p : Int) + n) ≤ (s.size : Int))) else glossaryref02_Next.j1 (k + 9 + 2) s p n v false) = _
  rw [if_pos hn]
  have e2 : decide (wrap64 ((p : Int) + n) ≤ (s.size : Int)) = decide (m ≤ s.size - p) := by
    rw [decide_eq_decide, e, w64 (by omega) (by omega)]
    omega
  rw [e2]
  simp [glossaryref02_Next.j1]
theorem j0_zero (s : ByteArray) (p : Nat) (hp : p < s.size) (k : Nat) (v : Int) (h : glossaryref02_long.f (k + 9 + 2) (by_ s p 0 : Nat) = some (0, v)) :
    glossaryref02_Next.j0 (k + 9 + 2 + 1) s p false = glossaryref02_Next.l0 (k + 9 + 1) s p 0 v false ((1 : Nat) : Int) := by
  have hb0 := by_lt s p 0
  have hbt : Go.Proofs.YtlomjbfhalmalaaGreatDoorW.PrintWords.bt s (p : Int) = (by_ s p 0 : Nat) := by have := bt_by (s := s) (p := p) (j := 0) (by omega); simpa using this
  simp only [glossaryref02_Next.j0]
  rw [if_neg (by simp), if_pos (by omega), if_pos (by omega), hbt, w64 (x := ((by_ s p 0 : Nat) : Int)) (by omega) (by omega), h]
  show (if (0 : Int) > 0 then glossaryref02_Next.j1 (k + 9 + 2) s p 0 v (decide (wrap64 ((p : Int) + 0) ≤ (s.size : Int))) else glossaryref02_Next.j1 (k + 9 + 2) s p 0 v false) = _
  rw [if_neg (by omega)]
  simp [glossaryref02_Next.j1]
theorem next_ref_in (s : ByteArray) (hs : s.size ≤ 140737488351232) (p : Nat) (hp : p < s.size) (k : Nat) : glossaryref02_Next.j0 (k + 9 + 2 + 1) s p false = pw s p (Lib.decodeN (s.size - p) (by_ s p 0) (by_ s p 1) (by_ s p 2) (by_ s p 3)) := by
  have hb0 := by_lt s p 0
  have hb1 := by_lt s p 1
  have hb2 := by_lt s p 2
  have hb3 := by_lt s p 3
  have hl := long_at (k + 9) ((by_ s p 0 : Nat) : Int) (by omega) (by omega)
  by_cases q1 : by_ s p 0 < 128
  · rw [if_pos (by omega)] at hl
    rw [j0_pos s p hp k _ _ hl (by omega) 1 rfl (by omega) hs, decide_eq_true (show 1 ≤ s.size - p by omega), nx1 s p k q1, pw_ans s p _ _ _ (fun _ => by omega), if_pos trivial, dN1 q1]
  · rw [if_neg (by omega)] at hl
    by_cases q2 : 192 ≤ by_ s p 0 ∧ by_ s p 0 < 224
    · rw [if_pos (by omega)] at hl
      rw [j0_pos s p hp k _ _ hl (by omega) 2 rfl (by omega) hs, nx2 s p hs hp k q2, pw_ans s p _ _ _ (fun _ => by omega), dN2 q2 hb1]
    · rw [if_neg (by omega)] at hl
      by_cases q3 : 224 ≤ by_ s p 0 ∧ by_ s p 0 < 240
      · rw [if_pos (by omega)] at hl
        rw [j0_pos s p hp k _ _ hl (by omega) 3 rfl (by omega) hs, nx3 s p hs hp k q3, pw_ans s p _ _ _ (fun _ => by omega), dN3 q3 hb1 hb2]
      · rw [if_neg (by omega)] at hl
        by_cases q4 : 240 ≤ by_ s p 0 ∧ by_ s p 0 < 248
        · rw [if_pos (by omega)] at hl
          rw [j0_pos s p hp k _ _ hl (by omega) 4 rfl (by omega) hs, nx4 s p hs hp k q4, pw_ans s p _ _ _ (fun _ => by omega), dN4 q4 hb1 hb2 hb3]
        · rw [if_neg (by omega)] at hl
          rw [j0_zero s p hp k _ hl, dN0 (by omega) (by omega) hb0, nx_end s p (k + 9) _ _ _ _ (.inr rfl), nx_bad s p (k + 8) _ _ hp _ (fun h => by cases h)]
          simp [pw]
theorem next_ref (s : ByteArray) (hs : s.size ≤ 140737488351232) (a : Int) (k : Nat) : glossaryref02_Next.f (k + 12) s a = some (nextP (bl s) a) := by
  unfold nextP glossaryref02_Next.f
  rw [bl_len]
  by_cases h1 : a < 0
  · rw [if_pos h1, if_pos (.inl h1)]; simp [glossaryref02_Next.j0]
  · rw [if_neg h1]
    by_cases h2 : (s.size : Int) ≤ a
    · rw [if_pos (.inr h2), decide_eq_true (show a ≥ (s.size : Int) from h2)]
      simp [glossaryref02_Next.j0]
    · rw [if_neg (by omega), decide_eq_false (show ¬ a ≥ (s.size : Int) by omega)]
      obtain ⟨p, rfl⟩ : ∃ p : Nat, a = p := ⟨a.toNat, by omega⟩
      rw [show k + 12 = k + 9 + 2 + 1 from rfl, next_ref_in s hs p (by omega) k, ← dec_by, Int.toNat_natCast]
      unfold pw pt ill b0 by_
      simp
end Go.Proofs.YtlomjbfhalmalaaGreatDoor.C
set_option linter.unusedVariables false
set_option linter.unusedSimpArgs false
namespace Go.Proofs.YtlomjbfhalmalaaGreatDoor.C
open Go Go.RowKit Go.Proofs.YtlomjbfhalmalaaGreatDoor.M Go.Proofs.YtlomjbfhalmalaaGreatDoor.E Go.Proofs.YtlomjbfhalmalaaGreatDoor.PAll Go.Proofs.YtlomjbfhalmalaaGreatDoorW.PrintWords
end Go.Proofs.YtlomjbfhalmalaaGreatDoor.C
set_option linter.unusedVariables false
set_option linter.unusedSimpArgs false
namespace Go.Proofs.YtlomjbfhalmalaaGreatDoor.C
open Go Go.RowKit Go.Proofs.YtlomjbfhalmalaaGreatDoor.M Go.Proofs.YtlomjbfhalmalaaGreatDoor.E Go.Proofs.YtlomjbfhalmalaaGreatDoor.PAll Go.Proofs.YtlomjbfhalmalaaGreatDoorW.PrintWords
theorem rd_nat (xs : List Int) (i : Nat) : rd xs (i : Int) = xs.getD i 0 := by unfold rd; rw [Int.toNat_natCast]
theorem rd_some {xs : List Int} {i : Nat} {u : Int} (h : xs[i]? = some u) : rd xs (i : Int) = u := by rw [rd_nat, List.getD_eq_getElem?_getD, h]; rfl
theorem pts_cons {l : List UInt8} (h : l ≠ []) : pts l = (pt l : Int) :: pts (l.drop (dw l)) := by unfold pts; rw [sfx_cons h]; rfl
theorem of_l0 (s : ByteArray) (hs : s.size < 35184372088832) : ∀ (n pos : Nat) (x3 : List Int), s.size ≤ pos + n → pos ≤ s.size → x3.length ≤ pos →
    ∃ k, glossaryref02_Of.l0 (k + 12) s x3 pos = some (x3 ++ pts ((bl s).drop pos))
  | n, pos, x3, h, hp, hx => by
    by_cases hlt : pos < s.size
    · cases n with
      | zero => omega
      | succ n =>
        have hne := bl_nonempty hlt
        have hw1 := dw_pos hne
        have hw2 := dw_len hne
        rw [List.length_drop, bl_len] at hw2
        obtain ⟨k, hk⟩ := of_l0 s hs n (pos + dw ((bl s).drop pos)) (x3 ++ [(pt ((bl s).drop pos) : Int)]) (by omega) (by omega) (by simp; omega)
        refine ⟨k + 1, ?_⟩
        show glossaryref02_Of.l0 (k + 12 + 1) s x3 pos = _
        unfold glossaryref02_Of.l0
        rw [if_pos (by omega), next_ref s (by omega) pos k]
        have en : nextP (bl s) (pos : Int) = ((pt ((bl s).drop pos) : Int), (dw ((bl s).drop pos) : Int)) := by
          unfold nextP
          rw [if_neg (by rw [bl_len]; omega), Int.toNat_natCast]
        rw [en]
        show (if x3.length < 35184372088832 then glossaryref02_Of.l0 (k + 12) s (x3 ++ [(pt ((bl s).drop pos) : Int)]) (wrap64 ((pos : Int) + (dw ((bl s).drop pos) : Int))) else none) = _
        rw [if_pos (by omega), w64 (by omega) (by omega), ← Int.natCast_add, hk, pts_cons hne, List.drop_drop]
        simp
    · refine ⟨0, ?_⟩
      show glossaryref02_Of.l0 (11 + 1) s x3 pos = _
      unfold glossaryref02_Of.l0
      rw [if_neg (by omega), List.drop_of_length_le (by rw [bl_len]; omega)]
      simp [pts, sfx_nil]
theorem of_ref (s : ByteArray) (hs : s.size < 35184372088832) : ∃ k, glossaryref02_Of.f k s = some (pts (bl s)) := by
  obtain ⟨k, hk⟩ := of_l0 s hs s.size 0 [] (by omega) (by omega) (by simp)
  exact ⟨k + 12, by unfold glossaryref02_Of.f; simpa using hk⟩
end Go.Proofs.YtlomjbfhalmalaaGreatDoor.C
