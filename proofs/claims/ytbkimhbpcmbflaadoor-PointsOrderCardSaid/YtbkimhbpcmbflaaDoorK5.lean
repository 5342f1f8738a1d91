/-
  The statement PointsOrder, walked: two units stand as their points do.
-/
import Derived.Test.YtbkimhbpcmbflaaDoorK4
import Derived.Test.YtbkimhbpcmbflaaDoorL1
import Derived.Deep.RegionHeld3
set_option linter.unusedVariables false
set_option linter.unusedSimpArgs false
namespace Go.Proofs.YtbkimhbpcmbflaaDoor.C
open Go Go.RowKit Go.Proofs.YtbkimhbpcmbflaaDoor.M Go.Proofs.YtbkimhbpcmbflaaDoor.E Go.Proofs.YtbkimhbpcmbflaaDoor.PAll Go.Proofs.YtbkimhbpcmbflaaDoorW.PrintWords

/-! ### bytes stand as characters do -/
theorem u8lt {a b : Nat} (ha : a < 256) (hb : b < 256) : (UInt8.ofNat a < UInt8.ofNat b) ↔ a < b := by
  rw [UInt8.lt_iff_toNat_lt, ofNat_toNat ha, ofNat_toNat hb]
theorem u8eq {a b : Nat} (ha : a < 256) (hb : b < 256) : (UInt8.ofNat a = UInt8.ofNat b) ↔ a = b := by
  rw [← UInt8.toNat_inj, ofNat_toNat ha, ofNat_toNat hb]
theorem less_cons {a b : Nat} (ha : a < 256) (hb : b < 256) (x y : List UInt8) : Op.bytesLess (UInt8.ofNat a :: x) (UInt8.ofNat b :: y) = (decide (a < b) || (decide (a = b) && Op.bytesLess x y)) := by
  rw [Op.bytesLess]
  congr 1
  · exact decide_eq_decide.2 (u8lt ha hb)
  · congr 1
    rw [Bool.eq_iff_iff, beq_iff_eq, decide_eq_true_iff]
    exact u8eq ha hb
theorem less_nil_r (x : List UInt8) : Op.bytesLess x [] = false := by cases x <;> rfl
theorem less_nil_l (b : UInt8) (y : List UInt8) : Op.bytesLess [] (b :: y) = true := rfl
set_option maxHeartbeats 2000000 in
theorem enc_less {c d : Nat} (hc : okc c) (hd : okc d) : Op.bytesLess (enc c) (enc d) = decide (c < d) := by
  rw [enc_eq hc, enc_eq hd]
  have h1 : c ≤ 1114111 := by have : c < 55296 ∨ (57344 ≤ c ∧ c ≤ 1114111) := hc; omega
  have h2 : d ≤ 1114111 := by have : d < 55296 ∨ (57344 ≤ d ∧ d ≤ 1114111) := hd; omega
  clear hc hd
  have e256 : ∀ n, n % 64 < 64 := fun n => by omega
  repeat' split
  all_goals
    rw [Bool.eq_iff_iff, decide_eq_true_iff]
    repeat rw [less_cons (by omega) (by omega)]
    simp only [less_nil_r, less_nil_l, Bool.or_eq_true, Bool.and_eq_true, decide_eq_true_iff, Bool.and_false, Bool.or_false, Bool.and_true, and_true, and_false, or_false]
    try omega
theorem enc_inj {c d : Nat} (hc : okc c) (hd : okc d) (h : enc c = enc d) : c = d := by
  have h1 := dc_enc hc []
  have h2 := dc_enc hd []
  rw [List.append_nil] at h1 h2
  rw [← h1, ← h2, h]
theorem pbytes_order {l r : List UInt8} (hl : l ≠ []) (hr : r ≠ []) (h : ill l = ill r) :
    Op.bytesLess (l.take (dw l)) (r.take (dw r)) = decide ((pt l : Int) < (pt r : Int)) ∧ ((l.take (dw l) == r.take (dw r)) = ((pt l : Int) == (pt r : Int))) := by
  cases hi : ill l with
  | false =>
    rw [hi] at h
    have h' := h.symm
    have e1 : pt l = dc l := pt_of_ok hi
    have e2 : pt r = dc r := pt_of_ok h'
    rw [take_enc hl hi, take_enc hr h', e1, e2, enc_less (okc_dc hl) (okc_dc hr)]
    refine ⟨decide_eq_decide.2 (by omega), ?_⟩
    rw [Bool.eq_iff_iff, beq_iff_eq, beq_iff_eq]
    exact ⟨fun h => by rw [enc_inj (okc_dc hl) (okc_dc hr) h], fun h => by rw [Int.ofNat.inj h]⟩
  | true =>
    rw [hi] at h
    have h' := h.symm
    have e1 : pt l = 1114112 + b0 l := by simp [pt, hi]
    have e2 : pt r = 1114112 + b0 r := by simp [pt, h']
    have g1 : UInt8.ofNat (b0 l) = l.getD 0 0 := u8_of rfl
    have g2 : UInt8.ofNat (b0 r) = r.getD 0 0 := u8_of rfl
    have k1 := (ill_b0 hl hi).2
    have k2 := (ill_b0 hr h').2
    rw [take_ill hl hi, take_ill hr h', ← g1, ← g2, less_cons k1 k2]
    constructor
    · rw [Bool.eq_iff_iff]
      simp only [less_nil_r, Bool.or_eq_true, decide_eq_true_iff, Bool.and_false, Bool.false_eq_true, or_false]
      omega
    · rw [Bool.eq_iff_iff, beq_iff_eq, beq_iff_eq, List.cons.injEq, u8eq k1 k2]
      simp only [and_true]
      omega
theorem mixed_order {l r : List UInt8} (hl : l ≠ []) (hr : r ≠ []) (h : ill l ≠ ill r) : decide ((pt l : Int) < (pt r : Int)) = !(ill l) := by
  have o1 := d_facts hl
  have o2 := d_facts hr
  cases hi : ill l with
  | false =>
    have h' : ill r = true := by rw [hi] at h; simpa using h
    have e1 : pt l = dc l := pt_of_ok hi
    have e2 : pt r = 1114112 + b0 r := by simp [pt, h']
    have := dc_lt l
    simp; omega
  | true =>
    have h' : ill r = false := by rw [hi] at h; simpa using h
    have e1 : pt r = dc r := pt_of_ok h'
    have e2 : pt l = 1114112 + b0 l := by simp [pt, hi]
    have := dc_lt r
    simp; omega
/-- whole, of a unit -/
theorem whole_unit {l : List UInt8} (h : l ≠ []) : decide (dc (l.take (dw l)) ≠ 65533 ∨ (l.take (dw l)).length = 3) = !(ill l) := by
  have hw := dw_len h
  cases hi : ill l with
  | false =>
    rw [take_enc h hi]
    have hd := dc_enc (okc_dc h) []
    rw [List.append_nil] at hd
    rw [hd]
    by_cases hc : dc l = 65533
    · have e : (enc 65533).length = 3 := by decide
      rw [hc, e]; rfl
    · simp [hc]
  | true =>
    rw [take_ill h hi]
    have hb := ill_b0 h hi
    have : ∀ x : UInt8, 128 ≤ x.toNat → dc [x] = 65533 := fun x hx => by
      have hne : [x] ≠ [] := by simp
      have f := d_facts hne
      have g1 := dw_len hne
      have g2 := dw_pos hne
      simp only [List.length_cons, List.length_nil] at g1
      have g3 : b0 [x] = x.toNat := rfl
      rcases f.2.2.2.2.1 (by omega) with ⟨k, _⟩ | ⟨_, k⟩
      · omega
      · exact k
    rw [this _ hb.1]
    simp

set_option maxHeartbeats 4000000 in
set_option maxRecDepth 1000000 in
theorem whole_bad (s : ByteArray) (w : World) (h0 : 0 < s.size) (hc : dc (bl s) = 65533) :
    Calls Tryd.prog 50 #[.string s] w fun e w' => e = .returned (.bool ((s.size : Int) == 3)) ∧ Below w.heap.size w w' := by
  have hd : Utf8.decode s 0 = (dc (bl s), dw (bl s)) := by have := (Lib.decodeL_drop s 0).symm; rw [List.drop_zero] at this; exact this
  have hcI : ((dc (bl s) : Nat) : Int) = 65533 := by omega
  go_enter Tryd.func50, Tryd.ntmps50
  go_wp2
  go_loopw [] (fun wr => wr.heap[w.heap.size]? = some (.stringIter s 0) ∧ Below w.heap.size w wr) (fun _ => 0)
  case atStart =>
    refine ⟨?_, ?_⟩
    · simpa using World.iter_heap w s 0
    · exact (Below.refl _ w).alloc (Nat.le_refl _) (.stringIter s 0)
  case round =>
    obtain ⟨hit, hbw⟩ := hrel
    have hnx : ∀ ty, (Instr.next (.pointer (some ⟨w.heap.size, 0, none⟩)) true ty).run Tryd.prog wr = .ok (.tuple #[.bool true, .int .i64 ((0 : Nat) : Int), .int .i32 65533]) (wr.iterAt w.heap.size s (0 + dw (bl s))) := fun ty => by
      have := Lib.run_next_any_at (P := Tryd.prog) wr w.heap.size s 0 ty hit h0
      rw [hd, hcI] at this
      exact this
    have hbw2 : Below w.heap.size w (wr.iterAt w.heap.size s (0 + dw (bl s))) := Lib.below_iterAt hbw (Nat.le_refl _) s _
    clear hd hcI hc
    rw [Nat.zero_add] at hbw2
    go_wp2
    go_ret
    exact ⟨rfl, hbw2⟩
set_option maxHeartbeats 4000000 in
set_option maxRecDepth 1000000 in
theorem whole_good (s : ByteArray) (w : World) (h0 : 0 < s.size) (hc : dc (bl s) ≠ 65533) :
    Calls Tryd.prog 50 #[.string s] w fun e w' => e = .returned (.bool true) ∧ Below w.heap.size w w' := by
  have hd : Utf8.decode s 0 = (dc (bl s), dw (bl s)) := by have := (Lib.decodeL_drop s 0).symm; rw [List.drop_zero] at this; exact this
  have hcI : (((dc (bl s) : Nat) : Int) == 65533) = false := by simp; omega
  have hcJ : ((dc (bl s) : Nat) : Int) ≠ 65533 := by omega
  go_enter Tryd.func50, Tryd.ntmps50
  go_wp2
  go_loopw [] (fun wr => wr.heap[w.heap.size]? = some (.stringIter s 0) ∧ Below w.heap.size w wr) (fun _ => 0)
  case atStart =>
    refine ⟨?_, ?_⟩
    · simpa using World.iter_heap w s 0
    · exact (Below.refl _ w).alloc (Nat.le_refl _) (.stringIter s 0)
  case round =>
    obtain ⟨hit, hbw⟩ := hrel
    have hnx : ∀ ty, (Instr.next (.pointer (some ⟨w.heap.size, 0, none⟩)) true ty).run Tryd.prog wr = .ok (.tuple #[.bool true, .int .i64 ((0 : Nat) : Int), .int .i32 (dc (bl s) : Nat)]) (wr.iterAt w.heap.size s (0 + dw (bl s))) := fun ty => by
      have := Lib.run_next_any_at (P := Tryd.prog) wr w.heap.size s 0 ty hit h0
      rw [hd] at this
      exact this
    have hbw2 : Below w.heap.size w (wr.iterAt w.heap.size s (0 + dw (bl s))) := Lib.below_iterAt hbw (Nat.le_refl _) s _
    clear hd hc
    rw [Nat.zero_add] at hbw2
    go_wp2
    go_ret
    exact ⟨rfl, hbw2⟩
theorem k3 (q n : Nat) (h : q = 65533) : (((n : Nat) : Int) == 3) = decide (q ≠ 65533 ∨ n = 3) := by
  rw [Bool.eq_iff_iff, beq_iff_eq, decide_eq_true_iff]; omega
theorem k4 (q n : Nat) (h : q ≠ 65533) : true = decide (q ≠ 65533 ∨ n = 3) := (decide_eq_true (.inl h)).symm
/-- whole of the unit at a text's head: a character? -/
theorem whole_head (s : ByteArray) (h0 : 0 < s.size) (w : World) :
    Calls Tryd.prog 50 #[.string (s.extract 0 (dw (bl s)))] w fun e w' => e = .returned (.bool (!(ill (bl s)))) ∧ Below w.heap.size w w' := by
  have hne : bl s ≠ [] := by intro h; have := bl_len s; rw [h] at this; simp at this; omega
  have e : bl (s.extract 0 (dw (bl s))) = (bl s).take (dw (bl s)) := by unfold bl; simp
  have hlen := bl_len (s.extract 0 (dw (bl s)))
  have hw := dw_len hne
  have hp := dw_pos hne
  have hu := whole_unit hne
  rw [← e] at hu
  have hl2 : (bl (s.extract 0 (dw (bl s)))).length = dw (bl s) := by rw [e, List.length_take]; omega
  rw [hlen] at hu
  rw [← hu]
  clear hu e
  generalize s.extract 0 (dw (bl s)) = u at hlen hl2 ⊢
  have hu0 : 0 < u.size := by omega
  by_cases hc : dc (bl u) = 65533
  · rw [← k3 _ _ hc]
    exact whole_bad u w hu0 hc
  · rw [← k4 _ _ hc]
    exact whole_good u w hu0 hc
theorem head_none {s : ByteArray} (h : s.size = 0) : nextP (bl s) 0 = (0, 0) := by
  unfold nextP
  rw [bl_len, if_pos (by omega)]
theorem head_some {s : ByteArray} (h : s.size ≠ 0) : nextP (bl s) 0 = ((pt (bl s) : Int), (dw (bl s) : Int)) := by
  unfold nextP
  rw [bl_len, if_neg (by omega), Int.toNat_zero, List.drop_zero]
theorem ba_empty {s : ByteArray} (h : s.size = 0) : s = ⟨#[]⟩ := by cases s with | mk d => exact congrArg ByteArray.mk (Array.eq_empty_of_size_eq_zero h)

set_option maxHeartbeats 400000 in
set_option maxRecDepth 1000000 in
theorem order_00 (w : World) (hT : Lib.Utf8Tabs 0 1 w) (hE : HE w)
    (c1 : ∀ W, Lib.Utf8Tabs 0 1 W → Calls Tryd.prog 49 #[.string ⟨#[]⟩, .int .i64 0] W fun e w' => e = .returned (.tuple #[.int .i32 0, .int .i64 0]) ∧ Below W.heap.size W w') :
    Calls Tryd.prog 13 #[.string ⟨#[]⟩, .string ⟨#[]⟩] w fun e w' => e = .returned (.bool true) ∧ Below w.heap.size w w' := by
  go_enter Tryd.func13, Tryd.ntmps13
  go_wp2_with fail
  refine (c1 _ hT).mono ?_
  rintro e w1 ⟨rfl, hb1⟩
  have hT1 := tabs_below hT hb1 (Nat.le_refl _)
  go_wp2_with fail
  refine (c1 _ hT1).mono ?_
  rintro e w2 ⟨rfl, hb2⟩
  have hb12 := hb1.trans (hb2.mono hb1.size)
  have hE2 : HE w2 := hE.below hb12 (Nat.le_refl _)
  go_wp2_with fail
  refine (works_any _ hE2).mono ?_
  rintro e w3 ⟨rfl, hb3⟩
  go_wp2
  go_ret
  exact ⟨rfl, hb12.trans (hb3.mono hb12.size)⟩
set_option maxHeartbeats 400000 in
set_option maxRecDepth 1000000 in
theorem order_01 (w : World) (hT : Lib.Utf8Tabs 0 1 w) (hE : HE w) (t : ByteArray) (b m : Int) (hm : 0 < m) (ht : ¬ t.toList = [])
    (c1 : ∀ W, Lib.Utf8Tabs 0 1 W → Calls Tryd.prog 49 #[.string ⟨#[]⟩, .int .i64 0] W fun e w' => e = .returned (.tuple #[.int .i32 0, .int .i64 0]) ∧ Below W.heap.size W w')
    (c2 : ∀ W, Lib.Utf8Tabs 0 1 W → Calls Tryd.prog 49 #[.string t, .int .i64 0] W fun e w' => e = .returned (.tuple #[.int .i32 b, .int .i64 m]) ∧ Below W.heap.size W w') :
    Calls Tryd.prog 13 #[.string ⟨#[]⟩, .string t] w fun e w' => e = .returned (.bool true) ∧ Below w.heap.size w w' := by
  have hmf : (m == 0) = false := by simp; omega
  go_enter Tryd.func13, Tryd.ntmps13
  go_wp2_with fail
  refine (c1 _ hT).mono ?_
  rintro e w1 ⟨rfl, hb1⟩
  have hT1 := tabs_below hT hb1 (Nat.le_refl _)
  go_wp2_with fail
  refine (c2 _ hT1).mono ?_
  rintro e w2 ⟨rfl, hb2⟩
  have hb12 := hb1.trans (hb2.mono hb1.size)
  have hE2 : HE w2 := hE.below hb12 (Nat.le_refl _)
  go_wp2_with fail
  refine (works_any _ hE2).mono ?_
  rintro e w3 ⟨rfl, hb3⟩
  go_wp2
  go_ret
  exact ⟨by simp [*], hb12.trans (hb3.mono hb12.size)⟩
set_option maxHeartbeats 400000 in
set_option maxRecDepth 1000000 in
theorem order_10 (w : World) (hT : Lib.Utf8Tabs 0 1 w) (hE : HE w) (s : ByteArray) (a n : Int) (hn : 0 < n) (hs : ¬ s.toList = [])
    (c1 : ∀ W, Lib.Utf8Tabs 0 1 W → Calls Tryd.prog 49 #[.string s, .int .i64 0] W fun e w' => e = .returned (.tuple #[.int .i32 a, .int .i64 n]) ∧ Below W.heap.size W w')
    (c2 : ∀ W, Lib.Utf8Tabs 0 1 W → Calls Tryd.prog 49 #[.string ⟨#[]⟩, .int .i64 0] W fun e w' => e = .returned (.tuple #[.int .i32 0, .int .i64 0]) ∧ Below W.heap.size W w') :
    Calls Tryd.prog 13 #[.string s, .string ⟨#[]⟩] w fun e w' => e = .returned (.bool true) ∧ Below w.heap.size w w' := by
  have hnf : (n == 0) = false := by simp; omega
  go_enter Tryd.func13, Tryd.ntmps13
  go_wp2_with fail
  refine (c1 _ hT).mono ?_
  rintro e w1 ⟨rfl, hb1⟩
  have hT1 := tabs_below hT hb1 (Nat.le_refl _)
  go_wp2_with fail
  refine (c2 _ hT1).mono ?_
  rintro e w2 ⟨rfl, hb2⟩
  have hb12 := hb1.trans (hb2.mono hb1.size)
  have hE2 : HE w2 := hE.below hb12 (Nat.le_refl _)
  go_wp2_with fail
  refine (works_any _ hE2).mono ?_
  rintro e w3 ⟨rfl, hb3⟩
  go_wp2
  go_ret
  exact ⟨by simp [*], hb12.trans (hb3.mono hb12.size)⟩
set_option maxHeartbeats 800000 in
set_option maxRecDepth 1000000 in
/-- the two heads are of two kinds -/
theorem order_mixed (w : World) (hT : Lib.Utf8Tabs 0 1 w) (hE : HE w) (s t : ByteArray) (a b : Int) (n m : Nat) (x : Bool) (hn : 0 < n) (hns : n ≤ s.size) (hm : 0 < m) (hmt : m ≤ t.size)
    (c1 : ∀ W, Lib.Utf8Tabs 0 1 W → Calls Tryd.prog 49 #[.string s, .int .i64 0] W fun e w' => e = .returned (.tuple #[.int .i32 a, .int .i64 n]) ∧ Below W.heap.size W w')
    (c2 : ∀ W, Lib.Utf8Tabs 0 1 W → Calls Tryd.prog 49 #[.string t, .int .i64 0] W fun e w' => e = .returned (.tuple #[.int .i32 b, .int .i64 m]) ∧ Below W.heap.size W w')
    (c3 : ∀ W, Calls Tryd.prog 50 #[.string (s.extract 0 n)] W fun e w' => e = .returned (.bool x) ∧ Below W.heap.size W w')
    (c4 : ∀ W, Calls Tryd.prog 50 #[.string (t.extract 0 m)] W fun e w' => e = .returned (.bool (!x)) ∧ Below W.heap.size W w')
    (hx : decide (a < b) = x) :
    Calls Tryd.prog 13 #[.string s, .string t] w fun e w' => e = .returned (.bool true) ∧ Below w.heap.size w w' := by
  have hnf : ((n : Int) == 0) = false := by simp; omega
  have hmf : ((m : Int) == 0) = false := by simp; omega
  go_enter Tryd.func13, Tryd.ntmps13
  go_wp2_with fail
  refine (c1 _ hT).mono ?_
  rintro e w1 ⟨rfl, hb1⟩
  have hT1 := tabs_below hT hb1 (Nat.le_refl _)
  go_wp2_with fail
  refine (c2 _ hT1).mono ?_
  rintro e w2 ⟨rfl, hb2⟩
  have hb12 := hb1.trans (hb2.mono hb1.size)
  go_wp2_with fail
  refine (c3 _).mono ?_
  rintro e w3 ⟨rfl, hb3⟩
  have hb13 := hb12.trans (hb3.mono hb12.size)
  go_wp2_with fail
  refine (c4 _).mono ?_
  rintro e w4 ⟨rfl, hb4⟩
  have hb14 := hb13.trans (hb4.mono hb13.size)
  have hE4 : HE w4 := hE.below hb14 (Nat.le_refl _)
  cases x
  all_goals
    go_wp2_with fail
    refine (works_any _ hE4).mono ?_
    rintro e w5 ⟨rfl, hb5⟩
    go_wp2
    go_ret
    exact ⟨rfl, hb14.trans (hb5.mono hb14.size)⟩
set_option maxHeartbeats 800000 in
set_option maxRecDepth 1000000 in
/-- the two heads are of one kind -/
theorem order_same (w : World) (hT : Lib.Utf8Tabs 0 1 w) (hE : HE w) (s t : ByteArray) (a b : Int) (n m : Nat) (x : Bool) (hn : 0 < n) (hns : n ≤ s.size) (hm : 0 < m) (hmt : m ≤ t.size)
    (c1 : ∀ W, Lib.Utf8Tabs 0 1 W → Calls Tryd.prog 49 #[.string s, .int .i64 0] W fun e w' => e = .returned (.tuple #[.int .i32 a, .int .i64 n]) ∧ Below W.heap.size W w')
    (c2 : ∀ W, Lib.Utf8Tabs 0 1 W → Calls Tryd.prog 49 #[.string t, .int .i64 0] W fun e w' => e = .returned (.tuple #[.int .i32 b, .int .i64 m]) ∧ Below W.heap.size W w')
    (c3 : ∀ W, Calls Tryd.prog 50 #[.string (s.extract 0 n)] W fun e w' => e = .returned (.bool x) ∧ Below W.heap.size W w')
    (c4 : ∀ W, Calls Tryd.prog 50 #[.string (t.extract 0 m)] W fun e w' => e = .returned (.bool x) ∧ Below W.heap.size W w')
    (hlt : Op.bytesLess (s.extract 0 n).toList (t.extract 0 m).toList = decide (a < b)) (heq : ((s.extract 0 n).toList == (t.extract 0 m).toList) = (a == b)) :
    Calls Tryd.prog 13 #[.string s, .string t] w fun e w' => e = .returned (.bool true) ∧ Below w.heap.size w w' := by
  have hnf : ((n : Int) == 0) = false := by simp; omega
  have hmf : ((m : Int) == 0) = false := by simp; omega
  go_enter Tryd.func13, Tryd.ntmps13
  go_wp2_with fail
  refine (c1 _ hT).mono ?_
  rintro e w1 ⟨rfl, hb1⟩
  have hT1 := tabs_below hT hb1 (Nat.le_refl _)
  go_wp2_with fail
  refine (c2 _ hT1).mono ?_
  rintro e w2 ⟨rfl, hb2⟩
  have hb12 := hb1.trans (hb2.mono hb1.size)
  go_wp2_with fail
  refine (c3 _).mono ?_
  rintro e w3 ⟨rfl, hb3⟩
  have hb13 := hb12.trans (hb3.mono hb12.size)
  go_wp2_with fail
  refine (c4 _).mono ?_
  rintro e w4 ⟨rfl, hb4⟩
  have hb14 := hb13.trans (hb4.mono hb13.size)
  have hE4 : HE w4 := hE.below hb14 (Nat.le_refl _)
  have hb14d : Below w.heap.size w w4.drew := hb14.drew
  have hL : (decide (a < b) == Op.bytesLess (s.extract 0 n).toList (t.extract 0 m).toList) = true := by rw [hlt]; simp
  have hQ : ((a == b) == ((s.extract 0 n).toList == (t.extract 0 m).toList)) = true := by rw [heq]; simp
  have cW : ∀ W : World, HE W ∧ Below w.heap.size w W → Calls Tryd.prog 28 #[] W fun e w' => e = .returned (.bool true) ∧ (HE w' ∧ Below w.heap.size w w') := fun W ⟨h1, h2⟩ =>
    (works_any W h1).mono fun e w' ⟨he, hb⟩ => ⟨he, h1.below hb (Nat.le_refl _), h2.trans (hb.mono h2.size)⟩
  go_wp2_with fail
  go_region_held3 (fun W => HE W ∧ Below w.heap.size w W) (first | exact ⟨by assumption, by assumption⟩)
    (first | (go_at_call 28; refine (cW _ ?_).mono ?_; (first | exact ⟨by assumption, by assumption⟩); rintro e w3 ⟨rfl, s1, s2⟩))
  all_goals go_wp2
  all_goals go_ret
  all_goals exact ⟨rfl, s2⟩
theorem toList_ne {s : ByteArray} (h : s.size ≠ 0) : ¬ s.toList = [] := by
  rw [ByteArray.toList_eq]
  intro e
  have := bl_len s
  unfold bl at this
  rw [e] at this
  simp at this
  omega
theorem ex_toList (s : ByteArray) (n : Nat) : (s.extract 0 n).toList = (bl s).take n := by
  rw [ByteArray.toList_eq]; unfold bl; simp
theorem law_PointsOrder (w : World) (hT : Lib.Utf8Tabs 0 1 w) (hE : HE w) (s : ByteArray) (hs : s.size ≤ 140737488351232) (t : ByteArray) (ht : t.size ≤ 140737488351232) :
    Calls Tryd.prog 13 #[.string s, .string t] w fun e w' => e = .returned (.bool true) ∧ Below w.heap.size w w' := by
  have c1 := fun W (h : Lib.Utf8Tabs 0 1 W) => next_any s 0 W h hs
  have c2 := fun W (h : Lib.Utf8Tabs 0 1 W) => next_any t 0 W h ht
  by_cases hs0 : s.size = 0
  · rw [head_none hs0] at c1
    have es := ba_empty hs0
    subst es
    by_cases ht0 : t.size = 0
    · have et := ba_empty ht0
      subst et
      exact order_00 w hT hE c1
    · rw [head_some ht0] at c2
      have hne : bl t ≠ [] := by intro h; have := bl_len t; rw [h] at this; simp at this; omega
      have := dw_pos hne
      exact order_01 w hT hE t _ _ (by show (0 : Int) < (dw (bl t) : Int); omega) (toList_ne ht0) c1 c2
  · rw [head_some hs0] at c1
    have hnes : bl s ≠ [] := by intro h; have := bl_len s; rw [h] at this; simp at this; omega
    have p1 := dw_pos hnes
    have q1 := dw_len hnes
    rw [bl_len] at q1
    by_cases ht0 : t.size = 0
    · rw [head_none ht0] at c2
      have et := ba_empty ht0
      subst et
      exact order_10 w hT hE s _ _ (by show (0 : Int) < (dw (bl s) : Int); omega) (toList_ne hs0) c1 c2
    · rw [head_some ht0] at c2
      have hnet : bl t ≠ [] := by intro h; have := bl_len t; rw [h] at this; simp at this; omega
      have p2 := dw_pos hnet
      have q2 := dw_len hnet
      rw [bl_len] at q2
      have c3 := whole_head s (by omega)
      have c4 := whole_head t (by omega)
      by_cases h : ill (bl s) = ill (bl t)
      · have o := pbytes_order hnes hnet h
        rw [h] at c3
        exact order_same w hT hE s t _ _ (dw (bl s)) (dw (bl t)) _ p1 q1 p2 q2 c1 c2 c3 c4 (by rw [ex_toList, ex_toList]; exact o.1) (by rw [ex_toList, ex_toList]; exact o.2)
      · have o := mixed_order hnes hnet h
        have e : ill (bl t) = !(ill (bl s)) := by
          cases h1 : ill (bl s) <;> cases h2 : ill (bl t) <;> simp_all
        rw [e] at c4
        exact order_mixed w hT hE s t _ _ (dw (bl s)) (dw (bl t)) _ p1 q1 p2 q2 c1 c2 c3 c4 o
end Go.Proofs.YtbkimhbpcmbflaaDoor.C
