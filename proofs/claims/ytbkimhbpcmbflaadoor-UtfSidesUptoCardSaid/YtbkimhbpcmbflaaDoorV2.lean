/-
  The statement UtfSides, walked.
-/
import Derived.Test.YtbkimhbpcmbflaaDoorQR
import Derived.Deep.RegionHeld3
import Derived.Lib.QuietBelowIn
import Derived.Stop.RegionWithIn
set_option linter.unusedVariables false
set_option linter.unusedSimpArgs false
namespace Go.Proofs.YtbkimhbpcmbflaaDoor.C
open Go Go.RowKit Go.Shelf Go.Proofs.YtbkimhbpcmbflaaDoor.M Go.Proofs.YtbkimhbpcmbflaaDoor.PAll Go.Proofs.YtbkimhbpcmbflaaDoor.Z Go.Proofs.YtbkimhbpcmbflaaDoorW.PrintWords

attribute [local go_sem] Oper.semAt_some
set_option maxRecDepth 100000 in
theorem bef_at (s : ByteArray) {x : List UInt8} {pre : List (List UInt8)} (h : sfx (bl s) = pre ++ sfx x) (hx : x ≠ []) {p : Nat} (hp : s.size - x.length = p) :
    befU (bl s) ((p : Int) + (dw x : Nat)) = (((dc x : Nat) : Int), ((dw x : Nat) : Int)) := by
  have h1 := units_drop h hx
  have h2 := dw_len hx
  have h3 := dw_pos hx
  rw [bl_len] at h1
  have h4 := decodeLast_unit h hx
  rw [bl_len, hp] at h4
  unfold befU
  rw [bl_len, if_neg (by omega), show ((p : Int) + (dw x : Nat)).toNat = p + dw x by omega, h4]
theorem bl_eb (x : Int) : bl (Utf8.encode x) = eb x := by
  generalize h : Utf8.encode x = y
  unfold eb
  rw [h]
theorem bl_enc (c : Nat) (h : okc c) : bl (Utf8.encode (c : Int)) = enc c := (bl_eb c).trans (eb_ok h)
theorem enc_at (s : ByteArray) {x : List UInt8} {p : Nat} (hx : x ≠ []) (hp : x = (bl s).drop p) (hle : p + dw x ≤ s.size) (h2 : 2 ≤ dw x) : Utf8.encode (dc x : Nat) = s.extract p (p + dw x) := by
  have hi : ill x = false := by
    cases hi : ill x with
    | false => rfl
    | true =>
      have : dc x = 65533 ∧ dw x = 1 := by simpa [ill] using hi
      omega
  have e1 := take_enc hx hi
  have e2 := bl_cut (s := s) (i := p) hle
  rw [List.drop_take, ← hp] at e2
  have e3 : p + dw x - p = dw x := by omega
  rw [e3, e1] at e2
  have hk := okc_dc hx
  generalize dc x = c at e2 hk ⊢
  exact ba_ext ((bl_enc c hk).trans e2.symm)
theorem byte_one (s : ByteArray) {x : List UInt8} {p : Nat} (hx : x ≠ []) (hp : x = (bl s).drop p) (hlt : p < s.size) (h1 : dw x = 1) : dc x = 65533 ∨ dc x = (s[p]'hlt).toNat := by
  rw [byte_at hlt, ← hp]
  rcases (d_facts hx).2.2.2.2.1 h1 with h | h
  · exact .inr h.2
  · exact .inl h.2
/-- what UtfSides' two counters hold -/
structure SI (W0 : World) (e n : Nat) (A : World) (ZZ : Nat → Prop) : Prop where
  en : A.cell? ⟨W0.heap.size, 0, none⟩ = some (.int .i64 (e : Nat))
  ez : A.frozen? ⟨W0.heap.size, 0, none⟩ = false
  nn : A.cell? ⟨W0.heap.size + 1, 0, none⟩ = some (.int .i64 (n : Nat))
  nz : A.frozen? ⟨W0.heap.size + 1, 0, none⟩ = false
  zz : ∀ k, ZZ k ↔ (k = W0.heap.size ∨ k = W0.heap.size + 1)
  st : Keeps none' W0 A
  big : W0.heap.size + 2 ≤ A.heap.size
theorem SI.keeps {W0 A A' : World} {e n : Nat} {ZZ Y : Nat → Prop} (h : SI W0 e n A ZZ) (hk : Keeps Y A A') (hy : ∀ k, Y k → W0.heap.size + 2 ≤ k) : SI W0 e n A' ZZ := by
  have hn : ∀ k, k < W0.heap.size + 2 → ¬ Y k := fun k hk' y => by have := hy k y; omega
  exact ⟨hk.cell h.en (hn _ (by show W0.heap.size < _; omega)), (frozen_keeps hk (World.block_lt_of_cell? A _ h.en) (hn _ (by show W0.heap.size < _; omega))).trans h.ez,
    hk.cell h.nn (hn _ (by show W0.heap.size + 1 < _; omega)), (frozen_keeps hk (World.block_lt_of_cell? A _ h.nn) (hn _ (by show W0.heap.size + 1 < _; omega))).trans h.nz, h.zz,
    h.st.trans hk (fun i hi y => hn i (by omega) y), Nat.le_trans h.big hk.size⟩
theorem SI.lt {W0 A : World} {e n : Nat} {ZZ : Nat → Prop} (h : SI W0 e n A ZZ) : ∀ k, ZZ k → k < A.heap.size := by
  have hb := h.big
  intro k z
  rcases (h.zz k).1 z with rfl | rfl <;> omega
theorem SI.storeE {W0 A : World} {e n : Nat} {ZZ : Nat → Prop} (h : SI W0 e n A ZZ) (e' : Nat) (z : Value) (hz : z = .int .i64 (e' : Nat)) :
    SI W0 e' n (A.setCell ⟨W0.heap.size, 0, none⟩ z) ZZ ∧ Step none' ZZ ZZ A (A.setCell ⟨W0.heap.size, 0, none⟩ z) := by
  subst hz
  have hb := h.big
  have hk : Keeps (fun k => k = W0.heap.size) A (A.setCell ⟨W0.heap.size, 0, none⟩ (.int .i64 (e' : Nat))) := Keeps.setCell _ _ _ rfl
  exact ⟨⟨World.cell?_setCell_same' _ _ _ (by rw [h.en]; rfl), by rw [World.frozen?_setCell]; exact h.ez, hk.cell h.nn (by show ¬ W0.heap.size + 1 = _; omega), by rw [World.frozen?_setCell]; exact h.nz, h.zz,
    h.st.trans hk (fun i hi y => by omega), Nat.le_trans h.big hk.size⟩, Step.same (hk.mono (fun k _ y => .inl ((h.zz k).2 (.inl y)))) h.lt⟩
theorem SI.storeN {W0 A : World} {e n : Nat} {ZZ : Nat → Prop} (h : SI W0 e n A ZZ) (n' : Nat) (z : Value) (hz : z = .int .i64 (n' : Nat)) :
    SI W0 e n' (A.setCell ⟨W0.heap.size + 1, 0, none⟩ z) ZZ ∧ Step none' ZZ ZZ A (A.setCell ⟨W0.heap.size + 1, 0, none⟩ z) := by
  subst hz
  have hb := h.big
  have hk : Keeps (fun k => k = W0.heap.size + 1) A (A.setCell ⟨W0.heap.size + 1, 0, none⟩ (.int .i64 (n' : Nat))) := Keeps.setCell _ _ _ rfl
  exact ⟨⟨hk.cell h.en (by show ¬ W0.heap.size = _; omega), by rw [World.frozen?_setCell]; exact h.ez, World.cell?_setCell_same' _ _ _ (by rw [h.nn]; rfl), by rw [World.frozen?_setCell]; exact h.nz, h.zz,
    h.st.trans hk (fun i hi y => by omega), Nat.le_trans h.big hk.size⟩, Step.same (hk.mono (fun k _ y => .inl ((h.zz k).2 (.inr y)))) h.lt⟩
theorem chars_l0 (xs : List Int) (hl : xs.length ≤ 35184372087808) : ∀ m i : Nat, i + m = xs.length → (∀ y ∈ xs.take i, Lib.validRune y = true) → glossarylaw01_characters.l0 (m + 1) xs i = some (decide (∀ x ∈ xs, Lib.validRune x = true))
  | 0, i, h, ha => by
    unfold glossarylaw01_characters.l0
    rw [if_neg (by omega)]
    rw [List.take_of_length_le (by omega)] at ha
    rw [decide_eq_true ha]
  | m + 1, i, h, ha => by
    have hx : xs[i]? = some (xs[i]'(by omega)) := List.getElem?_eq_getElem (by omega)
    have bad : Lib.validRune (xs[i]'(by omega)) = false → decide (∀ x ∈ xs, Lib.validRune x = true) = false := fun hb => decide_eq_false (fun hall => by
      have := hall _ (List.mem_of_getElem? hx); rw [hb] at this; cases this)
    have ok : Lib.validRune (xs[i]'(by omega)) = true → glossarylaw01_characters.l0 (m + 1) xs (wrap64 ((i : Int) + 1)) = some (decide (∀ x ∈ xs, Lib.validRune x = true)) := fun hv => by
      rw [wi i (by omega)]
      refine chars_l0 xs hl m (i + 1) (by omega) ?_
      intro y hy
      rw [List.take_add_one, hx] at hy
      rcases List.mem_append.1 hy with hy | hy
      · exact ha y hy
      · rw [show y = xs[i]'(by omega) by simpa using hy]; exact hv
    unfold glossarylaw01_characters.l0
    rw [if_pos (by omega), if_pos (by omega), rd_some hx]
    generalize xs[i]'(by omega) = x at bad ok
    by_cases h0 : x < 0
    · rw [if_pos h0, bad (by unfold Lib.validRune; simp; omega)]
    · rw [if_neg h0]
      by_cases h1 : x > 1114111
      · rw [if_pos h1, bad (by unfold Lib.validRune; simp; omega)]
      · rw [if_neg h1]
        by_cases h2 : x ≥ 55296
        · rw [if_pos h2]
          by_cases h3 : x ≤ 57343
          · rw [if_pos h3, bad (by unfold Lib.validRune; simp; omega)]
          · rw [if_neg h3]
            exact ok (by unfold Lib.validRune; simp; omega)
        · rw [if_neg h2]
          exact ok (by unfold Lib.validRune; simp; omega)
theorem chars_ref (xs : List Int) (hl : xs.length ≤ 35184372087808) : ∃ k, glossarylaw01_characters.f k xs = some (decide (xs.map fixr = xs)) := by
  refine ⟨xs.length + 1, ?_⟩
  unfold glossarylaw01_characters.f
  rw [decide_eq_decide.2 (fixr_same xs)]
  exact chars_l0 xs hl xs.length 0 (by omega) (by simp)
set_option maxRecDepth 100000 in
set_option maxHeartbeats 2000000 in
theorem UtfSides_of (w : World) (hT : Tabs w) (s : ByteArray) (hs : s.size ≤ 35184372087808) (A : Option Addr) (cap : Nat) (xs : List Int) (hl : xs.length ≤ 35184372087808) (hR : Rd w w.heap.size .i32 A xs) (hcap : xs.length ≤ cap) :
    Calls Tryd.prog 23 #[.string s, .slice A xs.length cap] w fun e w' => e = .returned (.bool true) ∧ Below w.heap.size w w' := by
  have cT2 := fun W B (h : Rd W B .i32 A xs) => callsIn_wide (n := 8).2 (textfn_any xs A cap W B h)
  have hr2 : runes (bl ⟨(textE xs).toArray⟩) = xs.map fixr := by rw [bl_mk, runes_textE]
  have cR2 := fun W => callsIn_wide (n := 8).2 (runesfn_any ⟨(textE xs).toArray⟩ W (by rw [← runes_len, hr2, List.length_map]; omega))
  rw [hr2, List.length_map] at cR2
  have cS2 : ∀ W A1 c1, Rd W W.heap.size .i32 A1 (xs.map fixr) → xs.length ≤ c1 → Rd W W.heap.size .i32 A xs → CallsIn Fence.wide 8 Tryd.prog 26 #[.slice A1 xs.length c1, .slice A xs.length cap] W fun e w' => e = .returned (.bool (decide (xs.map fixr = xs))) ∧ Below W.heap.size W w' := fun W A1 c1 h1 hc h2 => by
    have := same2_any (xs.map fixr) xs (by rw [List.length_map]; omega) (by omega) W A1 A c1 cap h1 h2 (by rw [List.length_map]; exact hc) hcap
    rw [List.length_map] at this
    exact callsIn_wide (n := 8).2 this
  have cC2 : ∀ W, Rd W W.heap.size .i32 A xs → CallsIn Fence.wide 8 Tryd.prog 75 #[.slice A xs.length cap] W fun e w' => e = .returned (.bool (decide (xs.map fixr = xs))) ∧ Below W.heap.size W w' := fun W h2 => by
    obtain ⟨k, hk⟩ := chars_ref xs hl
    exact callsIn_wide (n := 8).2 ((glossarylaw01_characters.calls k A cap xs _ W (C_of h2 (by omega)) hcap hk).mono fun e w' ⟨he, hb⟩ => ⟨he, hb.below⟩)
  obtain ⟨T2, hT2⟩ : ∃ T2 : ByteArray, ⟨(textE xs).toArray⟩ = T2 := ⟨_, rfl⟩
  simp only [hT2] at cT2 cR2
  obtain ⟨y, hy⟩ : ∃ y, decide (xs.map fixr = xs) = y := ⟨_, rfl⟩
  simp only [hy] at cS2 cC2
  obtain ⟨nx, hnx⟩ : ∃ nx, xs.length = nx := ⟨_, rfl⟩
  simp only [hnx] at cT2 cR2 cS2 cC2 hl hcap
  rw [hnx]
  clear hT2 hy hnx hr2
  refine (callsIn_wide (n := 9)).1 ?_
  refine callsIn_of_wp_marks Tryd.func23 rfl trivial ?_
  simp only [Tryd.ntmps23, List.size_toArray, List.length_cons, List.length_nil, Nat.reduceAdd, Nat.reduceSub, Array.replicate_succ, Array.replicate_zero, List.push_toArray, List.append_toArray, List.nil_append, List.cons_append]
  have hbl := bl_len s
  have cA := fun W => callsIn_wide (n := 8).2 (allfn_any s W)
  have cW := fun W (h : Below w.heap.size w W) => callsIn_wide (n := 8).2 (works01_any W (tabs_below hT h (Nat.le_refl _)))
  have Htab := Lib.hid hT
  have Hbl := Lib.hid hbl
  have HR := Lib.hid hR
  have hTlt : ∀ k, tabB k → k < w.heap.size := fun k tk => by
    rcases tk with rfl | rfl
    · exact cell_blk (hT.1 0 (by decide))
    · exact cell_blk (hT.2 0 (by decide)).1
  have HTlt := Lib.hid hTlt
  clear hT hbl hTlt hR
  gi_wp2_with fail
  obtain ⟨W1, hW1⟩ : ∃ W1, w.alloc (.cells #[.string s] 9) = W1 := ⟨_, rfl⟩
  have q0 := cell_new_l w (.string s) 9
  have z1 : W1.heap.size = w.heap.size + 1 := by rw [← hW1]; simp
  have k1 : Keeps none' w W1 := by rw [← hW1]; exact Keeps.alloc _ _ _
  rw [hW1] at q0 ⊢
  obtain ⟨W2, hW2⟩ : ∃ W2, W1.alloc (.cells #[.bool false] 4) = W2 := ⟨_, rfl⟩
  have q1 := cell_new_l W1 (.bool false) 4
  have z2 : W2.heap.size = w.heap.size + 2 := by rw [← hW2]; simp; omega
  have k2 : Keeps none' W1 W2 := by rw [← hW2]; exact Keeps.alloc _ _ _
  rw [hW2, z1] at q1
  rw [hW2]
  have k02 : Keeps none' w W2 := k1.trans k2 (fun _ _ h => h)
  have b02 : Below w.heap.size w W2 := k02.below (Nat.le_refl _) (fun _ h => h.elim)
  refine ⟨trivial, (cW _ b02).mono ?_⟩
  rintro e W3 ⟨rfl, b3⟩
  have k3 : Keeps none' W2 W3 := Keeps.of_below0 b3
  have nn : ∀ {A B C : World}, Keeps none' A B → Keeps none' B C → Keeps none' A C := fun h k => h.trans k (fun _ _ h => h)
  have k13 := nn k2 k3
  have k03 := nn k1 k13
  have s3 := k13.cell q0.1 (fun h => h)
  have r3 := k3.cell q1.1 (fun h => h)
  have rz3 : W3.frozen? ⟨w.heap.size + 1, 0, none⟩ = false := (frozen_keeps k3 (World.block_lt_of_cell? W2 _ q1.1) (fun h => h)).trans q1.2
  have big3 : w.heap.size + 2 ≤ W3.heap.size := by have := k3.size; omega
  have s5 := cell_alloc_l (.cells #[.int .i64 0] 3) (cell_alloc_l (.cells #[.int .i64 0] 3) s3)
  gi_wp2_with fail
  obtain ⟨W4, hW4⟩ : ∃ W4, W3.alloc (.cells #[.int .i64 0] 3) = W4 := ⟨_, rfl⟩
  have q3 := cell_new_l W3 (.int .i64 0) 3
  have z4 : W4.heap.size = W3.heap.size + 1 := by rw [← hW4]; simp
  have k4 : Keeps none' W3 W4 := by rw [← hW4]; exact Keeps.alloc _ _ _
  rw [hW4] at q3 s5 ⊢
  obtain ⟨W5, hW5⟩ : ∃ W5, W4.alloc (.cells #[.int .i64 0] 3) = W5 := ⟨_, rfl⟩
  have q4 := cell_new_l W4 (.int .i64 0) 3
  have z5 : W5.heap.size = W3.heap.size + 2 := by rw [← hW5]; simp; omega
  have k5 : Keeps none' W4 W5 := by rw [← hW5]; exact Keeps.alloc _ _ _
  rw [hW5, z4] at q4
  rw [hW5] at s5 ⊢
  refine ⟨trivial, (cA _).mono ?_⟩
  rintro e w' ⟨rfl, rfl⟩
  gi_wp2_with fail
  obtain ⟨W6, hW6⟩ : ∃ W6, W5.alloc (.cells #[.string s] 9) = W6 := ⟨_, rfl⟩
  have q5 := cell_new_l W5 (.string s) 9
  have z6 : W6.heap.size = W3.heap.size + 3 := by rw [← hW6]; simp; omega
  have k6 : Keeps none' W5 W6 := by rw [← hW6]; exact Keeps.alloc _ _ _
  rw [hW6, z5] at q5
  rw [hW6]
  have k56 := k6
  have k46 := nn k5 k56
  have k36 := nn k4 k46
  have f3 : W6.frozen? ⟨W3.heap.size, 0, none⟩ = false := (frozen_keeps k46 (World.block_lt_of_cell? W4 _ q3.1) (fun h => h)).trans q3.2
  have f4 : W6.frozen? ⟨W3.heap.size + 1, 0, none⟩ = false := (frozen_keeps k56 (World.block_lt_of_cell? W5 _ q4.1) (fun h => h)).trans q4.2
  have hI0 : SI W3 0 0 W6 (fun k => k = W3.heap.size ∨ k = W3.heap.size + 1) :=
    ⟨k46.cell q3.1 (fun h => h), f3, k56.cell q4.1 (fun h => h), f4, fun k => Iff.rfl, k36, by omega⟩
  have hs5 := q5.1
  have Hbelow3 : Below w.heap.size w W3 := k03.below (Nat.le_refl _) (fun _ h => h.elim)
  clear q0 q1 q3 q4 q5 k1 k2 k3 k4 k5 k6 k56 k46 k36 hW1 hW2 hW4 hW5 hW6 z1 z2 z4 z5 f3 f4 k02 b02 b3 k13 cA s5
  refine range_out (gf := 91) (lb := #[.pointer (some ⟨W3.heap.size + 2, 0, none⟩)]) (by first | rfl | (simp [go_sem]; done)) (enters_of Tryd.func91 (by kernel_rfl) rfl) (all_seq (W3.heap.size + 2) s (by omega)) (fun _ => rfl)
    (fun pre A ZZ => ∃ r, sfx (bl s) = pre ++ sfx r ∧ r.length ≤ s.size ∧ SI W3 (s.size - r.length) pre.length A ZZ)
    (fun _ _ _ _ => False)
    (fun k => k = W3.heap.size ∨ k = W3.heap.size + 1) ?hZ ?hRd ?hRb ?hI ?hIx ?hround ⟨bl s, by simp, by rw [Hbl.out]; exact Nat.le_refl _, by rw [Hbl.out, Nat.sub_self]; exact hI0⟩ ?hdone ?hstop
  case hZ => exact hI0.lt
  case hRd => exact fun W' hk => hk.cell hs5 (fun h => h)
  case hRb =>
    rintro k rfl
    exact ⟨by omega, fun z => by rcases z with z | z <;> omega⟩
  case hI =>
    rintro pre A B Y ZZ ⟨r, h1, h2, h⟩ hk hy
    exact ⟨r, h1, h2, h.keeps hk (fun k y => by have := (hy k y).2; omega)⟩
  case hIx => exact fun c pre A B Y ZZ h _ _ => h.elim
  case hround =>
    rintro l2 pre x A ZZ hl2 hzl hrec ⟨r, hr1, hr2, h⟩ hzz hB hpre
    obtain ⟨hne, rfl, hn2⟩ := units_next hr1 hpre
    obtain ⟨u1, u2⟩ := units_drop hr1 hne
    have hpn : pre.length ≤ 35184372087808 := by
      have h1 := congrArg List.length hr1
      have h2 := sfx_len (bl s)
      rw [Hbl.out] at h2
      rw [List.length_append] at h1
      omega
    rw [Hbl.out] at u1 u2
    have d1 := dw_pos hne
    have d2 := dw_len hne
    have d4 := (d_facts hne).2.1
    obtain ⟨p, hp⟩ : ∃ p, s.size - x.length = p := ⟨_, rfl⟩
    have hps : p + x.length = s.size := by omega
    rw [hp] at u2 h
    have eb := bef_at s hr1 hne hp
    have ed : decU (bl s) (p : Int) = (((dc x : Nat) : Int), ((dw x : Nat) : Int)) := by
      have := decodeU_at (bl s) p (by rw [Hbl.out]; omega)
      rw [← u2] at this
      exact this
    have enx : s.size - (x.drop (dw x)).length = p + dw x := by rw [List.length_drop]; omega
    have hlen2 : (x.drop (dw x)).length ≤ s.size := by rw [List.length_drop]; omega
    simp only [encA]
    rw [hp]
    have hpl : p < s.size := by omega
    have hle : p + dw x ≤ s.size := by omega
    have he2 : 2 ≤ dw x → Utf8.encode (dc x : Nat) = s.extract p (p + dw x) := fun h2 => enc_at s (p := p) hne u2 hle h2
    have hb1 : dw x = 1 → dc x = 65533 ∨ dc x = (s[p]'hpl).toNat := fun h1 => byte_one s hne u2 hpl h1
    obtain ⟨q, hq⟩ : ∃ q, pre.length = q := ⟨_, rfl⟩
    rw [hq] at h hpn
    have Hq := Lib.hid hq
    obtain ⟨d, hd⟩ : ∃ d, dw x = d := ⟨_, rfl⟩
    obtain ⟨c, hc⟩ : ∃ c, dc x = c := ⟨_, rfl⟩
    rw [hd] at eb ed enx d1 d2 d4 he2 hb1 hle hlen2
    rw [hc] at eb ed he2 hb1
    rw [hc]
    have Hn2 := Lib.hid hn2
    have Hd := Lib.hid hd
    have Hen := Lib.hid enx
    clear hn2 enx hr1 hc hp u2
    gi_wp2
    refine ⟨Keeps.refl _ _, ?_⟩
    intro A2 hk2
    intros
    have hm2 := h.keeps hk2 (fun k y => by subst y; omega)
    have hTA := (Htab.out.keeps k03 (fun _ _ h => h)).keeps hm2.st (fun _ _ h => h)
    have cD := decode_any s (p : Int) A2 hTA (by omega)
    rw [ed] at cD
    have e1 := hm2.st.cell s3 (fun h => h)
    clear h hl2 ed
    gi_wp2_with fail
    refine ⟨trivial, (CallsIn.inRound l2 (callsIn_wide (n := 8).2 cD)).mono ?_⟩
    rintro e A3 ⟨rfl, b3⟩
    have m3 := hm2.keeps (Keeps.of_below0 b3) (fun k y => y.elim)
    have st3 : Step none' ZZ ZZ A2 A3 := Step.same ((Keeps.of_below0 b3).mono (fun _ _ h => h.elim)) hm2.lt
    have hTA := (Htab.out.keeps k03 (fun _ _ h => h)).keeps m3.st (fun _ _ h => h)
    have cB := beforefn_any s ((p : Int) + (d : Int)) A3 hTA (by omega)
    rw [eb] at cB
    have e1 := m3.st.cell s3 (fun h => h)
    clear hm2 cD eb b3
    gi_wp2_with fail
    refine ⟨trivial, (CallsIn.inRound l2 (callsIn_wide (n := 8).2 cB)).mono ?_⟩
    rintro e A4 ⟨rfl, b4⟩
    have m4 := m3.keeps (Keeps.of_below0 b4) (fun k y => y.elim)
    have st4 : Step none' ZZ ZZ A3 A4 := Step.same ((Keeps.of_below0 b4).mono (fun _ _ h => h.elim)) m3.lt
    have e1 := m4.st.cell s3 (fun h => h)
    have e2 := m4.en
    clear m3 cB b4
    gi_wp2_with fail
    clear hd hk2 hrec hB hpre hzz hq
    by_cases h2 : 2 ≤ d
    · have he := he2 h2
      have hd1 : decide ((d : Int) < 1) = false := by simp; omega
      have hd2 : decide ((1 : Int) < (d : Int)) = true := by simp; omega
      have hd4 : decide ((4 : Int) < (d : Int)) = false := by simp; omega
      have hdn : ((d : Int) == 1) = false := by simp; omega
      have hpI : (p : Int) + (d : Int) ≤ s.size := by omega
      have hq : ((Utf8.encode (c : Nat)).toList == (s.extract p (p + d)).toList) = true := by rw [he]; exact beq_self_eq_true _
      clear hb1 he2 he
      refine wpIn_region_quiet_round rfl (by kernel_rfl) (by kernel_rfl) (by kernel_rfl) ?_
      repeat (gi_big_quiet_step (fail))
      refine BigFrame.wpQuietIn_want (fun _ _ _ _ => trivial) rfl ?_
      intro K hK
      gi_big_quiet_op
      refine ⟨_, fun m => (callsIn_wide (n := 8).2 (encodefn_any c (A4.drewN m))).mono (fun e w'' ⟨h1, h2⟩ => ⟨h1, m, h2.symm⟩), ?_⟩
      go_big_quiet_on
      repeat (gi_big_quiet_step (fail))
      refine wpQuietIn_nil ?_
      intro _ hw'
      obtain ⟨nq, rfl⟩ := hw'
      have m5 : SI W3 p q (A4.drewN nq) ZZ := m4.keeps (Keeps.of_below0 (below_drewN (Below.refl _ A4) nq)) (fun k y => y.elim)
      have st5 : Step none' ZZ ZZ A4 (A4.drewN nq) := Step.same ((Keeps.of_below0 (below_drewN (Below.refl _ A4) nq)).mono (fun _ _ h => h.elim)) m4.lt
      generalize A4.drewN nq = A5 at m5 st5 ⊢
      obtain ⟨m6, st6⟩ := m5.storeE (p + d) (.int .i64 ((p : Int) + (d : Int))) (by rw [Int.natCast_add])
      obtain ⟨m7, st7⟩ := m6.storeN (q + 1) (.int .i64 ((q : Int) + 1)) (by rw [Int.natCast_add]; rfl)
      have y5 := m5.en
      have z5 := m5.ez
      have e6 := m6.nn
      have z6 := m6.nz
      have hfin : ∃ Z', Step none' ZZ Z' A2 ((A5.setCell ⟨W3.heap.size, 0, none⟩ (.int .i64 ((p : Int) + (d : Int)))).setCell ⟨W3.heap.size + 1, 0, none⟩ (.int .i64 ((q : Int) + 1))) ∧ (∃ r, sfx (bl s) = (pre ++ [x]) ++ sfx r ∧ r.length ≤ s.size ∧ SI W3 (s.size - r.length) (pre ++ [x]).length ((A5.setCell ⟨W3.heap.size, 0, none⟩ (.int .i64 ((p : Int) + (d : Int)))).setCell ⟨W3.heap.size + 1, 0, none⟩ (.int .i64 ((q : Int) + 1))) Z') := by
        refine ⟨_, (((st3.trans st4).trans st5).trans st6).trans st7, x.drop (dw x), Hn2.out, ?_, ?_⟩
        · rw [Hd.out]; exact hlen2
        · rw [Hd.out, Hen.out, List.length_append, List.length_cons, List.length_nil, Hq.out]
          exact m7
      have Hfin := Lib.hid hfin
      clear hfin m4 m5 m6 m7 st3 st4 st5 st6 st7 e2
      gi_wp2
      exact Hfin.out
    · have h1 : d = 1 := by omega
      have hb := hb1 h1
      have hd1 : decide ((d : Int) < 1) = false := by simp; omega
      have hd2 : decide ((1 : Int) < (d : Int)) = false := by simp; omega
      have hd4 : decide ((4 : Int) < (d : Int)) = false := by simp; omega
      have hdn : ((d : Int) == 1) = true := by simp; omega
      clear hb1 he2 h1
      by_cases hc : c = 65533
      · have hcn : (c : Int) = 65533 := by omega
        clear hc hb
        refine wpIn_region_quiet_round rfl (by kernel_rfl) (by kernel_rfl) (by kernel_rfl) ?_
        repeat (gi_big_quiet_step (fail))
        refine BigFrame.wpQuietIn_skip (fun _ _ _ _ => trivial) rfl ?_
        simp only [Act.put, List.setIfInBounds_toArray, List.set_cons_succ, List.set_cons_zero]
        repeat (gi_big_quiet_step (fail))
        refine wpQuietIn_nil ?_
        intro _ hw'
        obtain ⟨nq, rfl⟩ := hw'
        have m5 : SI W3 p q (A4.drewN nq) ZZ := m4.keeps (Keeps.of_below0 (below_drewN (Below.refl _ A4) nq)) (fun k y => y.elim)
        have st5 : Step none' ZZ ZZ A4 (A4.drewN nq) := Step.same ((Keeps.of_below0 (below_drewN (Below.refl _ A4) nq)).mono (fun _ _ h => h.elim)) m4.lt
        generalize A4.drewN nq = A5 at m5 st5 ⊢
        obtain ⟨m6, st6⟩ := m5.storeE (p + d) (.int .i64 ((p : Int) + (d : Int))) (by rw [Int.natCast_add])
        obtain ⟨m7, st7⟩ := m6.storeN (q + 1) (.int .i64 ((q : Int) + 1)) (by rw [Int.natCast_add]; rfl)
        have y5 := m5.en
        have z5 := m5.ez
        have e6 := m6.nn
        have z6 := m6.nz
        have hfin : ∃ Z', Step none' ZZ Z' A2 ((A5.setCell ⟨W3.heap.size, 0, none⟩ (.int .i64 ((p : Int) + (d : Int)))).setCell ⟨W3.heap.size + 1, 0, none⟩ (.int .i64 ((q : Int) + 1))) ∧ (∃ r, sfx (bl s) = (pre ++ [x]) ++ sfx r ∧ r.length ≤ s.size ∧ SI W3 (s.size - r.length) (pre ++ [x]).length ((A5.setCell ⟨W3.heap.size, 0, none⟩ (.int .i64 ((p : Int) + (d : Int)))).setCell ⟨W3.heap.size + 1, 0, none⟩ (.int .i64 ((q : Int) + 1))) Z') := by
          refine ⟨_, (((st3.trans st4).trans st5).trans st6).trans st7, x.drop (dw x), Hn2.out, ?_, ?_⟩
          · rw [Hd.out]; exact hlen2
          · rw [Hd.out, Hen.out, List.length_append, List.length_cons, List.length_nil, Hq.out]
            exact m7
        have Hfin := Lib.hid hfin
        clear hfin m4 m5 m6 m7 st3 st4 st5 st6 st7 e2
        gi_wp2
        exact Hfin.out
      · have hcb := hb.resolve_left hc
        have hcn : ((c : Int) == 65533) = false := by simp; omega
        have hcn2 : ¬ (c : Int) = 65533 := by omega
        have hcn3 : ((c : Int) != 65533) = true := by simp; omega
        have hpI : (p : Int) < s.size := by omega
        clear hc hb
        have hcb2 : (c : Int) = ((s[p]'hpl).toNat : Int) := by rw [hcb]
        clear hcb
        have hbw : wrap32 ((s[p]'hpl).toNat : Int) = (c : Int) := by
          have := (s[p]'hpl).toNat_lt
          rw [hcb2, w32 (by omega) (by omega)]
        have hbc : (wrap32 ((s[p]'hpl).toNat : Int) == (c : Int)) = true := by rw [hbw]; exact beq_self_eq_true _
        have hbc2 : (wrap32 ((s[p]'hpl).toNat : Int) != (c : Int)) = false := by unfold bne; rw [hbc]; rfl
        clear hbw
        clear hcb2
        refine wpIn_region_quiet_round rfl (by kernel_rfl) (by kernel_rfl) (by kernel_rfl) ?_
        repeat (gi_big_quiet_step (fail))
        refine BigFrame.wpQuietIn_skip (fun _ _ _ _ => trivial) rfl ?_
        simp only [Act.put, List.setIfInBounds_toArray, List.set_cons_succ, List.set_cons_zero]
        repeat (gi_big_quiet_step (fail))
        refine wpQuietIn_nil ?_
        intro _ hw'
        obtain ⟨nq, rfl⟩ := hw'
        have m5 : SI W3 p q (A4.drewN nq) ZZ := m4.keeps (Keeps.of_below0 (below_drewN (Below.refl _ A4) nq)) (fun k y => y.elim)
        have st5 : Step none' ZZ ZZ A4 (A4.drewN nq) := Step.same ((Keeps.of_below0 (below_drewN (Below.refl _ A4) nq)).mono (fun _ _ h => h.elim)) m4.lt
        generalize A4.drewN nq = A5 at m5 st5 ⊢
        obtain ⟨m6, st6⟩ := m5.storeE (p + d) (.int .i64 ((p : Int) + (d : Int))) (by rw [Int.natCast_add])
        obtain ⟨m7, st7⟩ := m6.storeN (q + 1) (.int .i64 ((q : Int) + 1)) (by rw [Int.natCast_add]; rfl)
        have y5 := m5.en
        have z5 := m5.ez
        have e6 := m6.nn
        have z6 := m6.nz
        have hfin : ∃ Z', Step none' ZZ Z' A2 ((A5.setCell ⟨W3.heap.size, 0, none⟩ (.int .i64 ((p : Int) + (d : Int)))).setCell ⟨W3.heap.size + 1, 0, none⟩ (.int .i64 ((q : Int) + 1))) ∧ (∃ r, sfx (bl s) = (pre ++ [x]) ++ sfx r ∧ r.length ≤ s.size ∧ SI W3 (s.size - r.length) (pre ++ [x]).length ((A5.setCell ⟨W3.heap.size, 0, none⟩ (.int .i64 ((p : Int) + (d : Int)))).setCell ⟨W3.heap.size + 1, 0, none⟩ (.int .i64 ((q : Int) + 1))) Z') := by
          refine ⟨_, (((st3.trans st4).trans st5).trans st6).trans st7, x.drop (dw x), Hn2.out, ?_, ?_⟩
          · rw [Hd.out]; exact hlen2
          · rw [Hd.out, Hen.out, List.length_append, List.length_cons, List.length_nil, Hq.out]
            exact m7
        have Hfin := Lib.hid hfin
        clear hfin m4 m5 m6 m7 st3 st4 st5 st6 st7 e2
        gi_wp2
        exact Hfin.out
  case hstop => intros; contradiction
  case hdone =>
    rintro D W' Z' hD hzD hst ⟨r, hr1, hr2, h⟩ hd
    have hr0 : r = [] := by
      have h1 := congrArg List.length hr1
      rw [List.length_append] at h1
      by_cases hne : r = []
      · exact hne
      · rw [sfx_cons hne, List.length_cons] at h1; omega
    subst hr0
    clear hr1 hr2
    have hN : (sfx (bl s)).length ≤ s.size := by have := sfx_len (bl s); rw [Hbl.out] at this; exact this
    have cC := fun W => callsIn_wide (n := 8).2 (countfn_any s W (by omega))
    have hz0 : s.size - ([] : List UInt8).length = s.size := by simp
    rw [hz0] at h
    obtain ⟨N, hNN⟩ : ∃ N, (sfx (bl s)).length = N := ⟨_, rfl⟩
    rw [hNN] at h hN cC
    have HN := Lib.hid hNN
    have Hd := Lib.hid hd
    have e1 := h.st.cell s3 (fun h => h)
    have e2 := h.en
    have e3 := h.nn
    clear hd hNN hz0 hI0 hs5
    gi_wp2_with fail
    have g1 := fun d os => cell_regrown e1 d os
    have g2 := fun d os => cell_regrown e2 d os
    have g3 := fun d os => cell_regrown e3 d os
    refine wpIn_region_quiet_below rfl (by kernel_rfl) (by kernel_rfl) ?_
    repeat (gi_big_quiet_step (fail))
    refine BigFrame.wpQuietIn_want (fun _ _ _ _ => trivial) rfl ?_
    intro K hK
    gi_big_quiet_op
    refine ⟨_, fun m => CallsIn.regrown_of (cC _), ?_⟩
    go_big_quiet_on
    repeat (gi_big_quiet_step (fail))
    refine wpQuietIn_nil ?_
    intro _ hw'
    obtain ⟨p, rfl⟩ := hw'
    have b14 := below_regrown W' p.d p.os
    generalize Sort.grow (redrawn W' p.d) p.os = V at b14 ⊢
    have k14 : Keeps none' W' V := Keeps.of_below0 b14
    have m14 := h.keeps k14 (fun k y => y.elim)
    clear h g1 g2 g3 e1 e2 e3 cC
    have e1 := m14.st.cell s3 (fun h => h)
    gi_wp2_with fail
    have bV : Below w.heap.size w V := (Hbelow3.trans ((m14.st.below (Nat.le_refl _) (fun _ h => h.elim)).mono Hbelow3.size))
    have hd14 : V.heap[D]? = some (.deferred (some [])) := k14.obj Hd.out (fun h => h)
    have r14 := m14.st.cell r3 (fun h => h)
    have rz14 : V.frozen? ⟨w.heap.size + 1, 0, none⟩ = false := (frozen_keeps m14.st (World.block_lt_of_cell? W3 _ r3) (fun h => h)).trans rz3
    have hVs : w.heap.size + 2 ≤ V.heap.size := by have := m14.big; omega
    have hrl : (runes (bl s)).length ≤ s.size := by rw [runes_len, HN.out]; exact hN
    have cR := fun W => callsIn_wide (n := 8).2 (runesfn_any s W (by rw [HN.out]; omega))
    have cT := fun W A c (h : Rd W W.heap.size .i32 A (runes (bl s))) => callsIn_wide (n := 8).2 (textfn_any (runes (bl s)) A c W _ h)
    clear m14 k14 b14
    obtain ⟨RS, hRS⟩ : ∃ RS, runes (bl s) = RS := ⟨_, rfl⟩
    rw [hRS] at cR cT hrl
    obtain ⟨T1, hT1⟩ : ∃ T1 : ByteArray, ⟨(textE RS).toArray⟩ = T1 := ⟨_, rfl⟩
    simp only [hT1] at cT
    have hbk : (T1.toList == s.toList) = okB (bl s) := by
      rw [← hT1, ← hRS, ByteArray.toList_eq, ByteArray.toList_eq]
      show (textE (runes (bl s)) == bl s) = _
      by_cases hk : okB (bl s) = true
      · rw [hk, (back_text (bl s)).2 hk]; exact beq_self_eq_true _
      · have hne : ¬ textE (runes (bl s)) = bl s := fun e => hk ((back_text (bl s)).1 e)
        rw [Bool.eq_false_iff.2 hk]
        exact beq_eq_false_iff_ne.2 hne
    have cV := fun W (h : Below w.heap.size w W) => callsIn_wide (n := 8).2 (validfn_any s W (tabs_below Htab.out h (Nat.le_refl _)) (by omega))
    generalize okB (bl s) = ok at hbk cV
    have HRS := Lib.hid hRS
    have HT1 := Lib.hid hT1
    obtain ⟨nr, hnr⟩ : ∃ nr, RS.length = nr := ⟨_, rfl⟩
    rw [hnr] at cR cT hrl
    clear hRS hT1 hnr
    have e1d : V.drew.cell? ⟨w.heap.size, 0, none⟩ = some (.string s) := e1
    refine Code.wpIn_mono (Q := NoPanic _) NoPanic.imp ?_
    gi_region_with (first
      | (refine ⟨trivial, (cR _).mono ?_⟩; rintro e w5 ⟨c5, rfl, hc5, hrd5, b5⟩; have e5 := (b5.cell (p := ⟨w.heap.size, 0, none⟩) (by show w.heap.size < V.heap.size; omega)).trans e1d)
      | (refine ⟨trivial, (cT _ _ _ hrd5).mono ?_⟩; rintro e w6 ⟨rfl, b6⟩; have e6 := (b6.cell (p := ⟨w.heap.size, 0, none⟩) (World.block_lt_of_cell? _ _ e5)).trans e5))
    all_goals refine NoPanic.normal ?_
    all_goals simp only [Act.put, List.getElem_toArray, List.getElem_cons_succ, List.getElem_cons_zero, List.setIfInBounds_toArray, List.set_cons_succ, List.set_cons_zero]
    all_goals try simp only [hbk]
    all_goals have bw6 : Below V.heap.size V w6 := ((Below.refl V.heap.size V).drew.trans (b5.mono (Nat.le_refl _))).trans (b6.mono (((Below.refl V.heap.size V).drew.trans (b5.mono (Nat.le_refl _))).size))
    all_goals have bX : Below w.heap.size w w6 := bV.trans (bw6.mono bV.size)
    all_goals clear cR cT hrd5 b5 b6 e5
    all_goals gi_wp2_with fail
    all_goals refine ⟨trivial, (cV _ bX).mono ?_⟩
    all_goals rintro e w7 ⟨rfl, b7⟩
    all_goals have bX7 := bX.trans (b7.mono bX.size)
    all_goals gi_wp2_with fail
    all_goals refine ⟨trivial, (cT2 _ _ (HR.out.below bX7 (Nat.le_refl _))).mono ?_⟩
    all_goals rintro e w8 ⟨rfl, b8⟩
    all_goals have bX8 := bX7.trans (b8.mono bX7.size)
    all_goals gi_wp2_with fail
    all_goals refine ⟨trivial, (cR2 _).mono ?_⟩
    all_goals rintro e w9 ⟨c9, rfl, hc9, hrd9, b9⟩
    all_goals have bX9 := bX8.trans (b9.mono bX8.size)
    all_goals gi_wp2_with fail
    all_goals refine ⟨trivial, (cS2 _ _ _ hrd9 hc9 ((HR.out.below bX9 (Nat.le_refl _)).more bX9.size)).mono ?_⟩
    all_goals rintro e w10 ⟨rfl, b10⟩
    all_goals have bX10 := bX9.trans (b10.mono bX9.size)
    all_goals gi_wp2_with fail
    all_goals refine ⟨trivial, (cC2 _ ((HR.out.below bX10 (Nat.le_refl _)).more bX10.size)).mono ?_⟩
    all_goals rintro e w11 ⟨rfl, b11⟩
    all_goals have bX11 := bX10.trans (b11.mono bX10.size)
    all_goals have bV11 : Below V.heap.size V w11 := (((((bw6.trans (b7.mono bw6.size)).trans (b8.mono (bw6.trans (b7.mono bw6.size)).size)).trans (b9.mono ((bw6.trans (b7.mono bw6.size)).trans (b8.mono (bw6.trans (b7.mono bw6.size)).size)).size))).trans (b10.mono (((bw6.trans (b7.mono bw6.size)).trans (b8.mono (bw6.trans (b7.mono bw6.size)).size)).trans (b9.mono ((bw6.trans (b7.mono bw6.size)).trans (b8.mono (bw6.trans (b7.mono bw6.size)).size)).size)).size)).trans (b11.mono ((((bw6.trans (b7.mono bw6.size)).trans (b8.mono (bw6.trans (b7.mono bw6.size)).size)).trans (b9.mono ((bw6.trans (b7.mono bw6.size)).trans (b8.mono (bw6.trans (b7.mono bw6.size)).size)).size)).trans (b10.mono (((bw6.trans (b7.mono bw6.size)).trans (b8.mono (bw6.trans (b7.mono bw6.size)).size)).trans (b9.mono ((bw6.trans (b7.mono bw6.size)).trans (b8.mono (bw6.trans (b7.mono bw6.size)).size)).size)).size)).size)
    all_goals have kV := Keeps.of_below0 bV11
    all_goals have r11 := kV.cell r14 (fun h => h)
    all_goals have rz11 : w11.frozen? ⟨w.heap.size + 1, 0, none⟩ = false := (frozen_keeps kV (World.block_lt_of_cell? V _ r14) (fun h => h)).trans rz14
    all_goals have hd11 := kV.obj hd14 (fun h => h)
    all_goals clear b7 b8 b9 b10 b11 hrd9 bw6 cR2 cT2 cS2 cC2 cV
    all_goals gi_wp2
    all_goals have kX : Keeps (fun k => k = w.heap.size + 1) w11 (w11.setCell ⟨w.heap.size + 1, 0, none⟩ (.bool true)) := Keeps.setCell _ _ _ rfl
    all_goals have hdX := kX.obj hd11 (by show ¬ D = _; omega)
    all_goals have cX : (w11.setCell ⟨w.heap.size + 1, 0, none⟩ (.bool true)).cell? ⟨w.heap.size + 1, 0, none⟩ = some (.bool true) := World.cell?_setCell_same' _ _ _ (by rw [r11]; rfl)
    all_goals have bXX : Below w.heap.size w (w11.setCell ⟨w.heap.size + 1, 0, none⟩ (.bool true)) := bX11.trans (kX.below (Nat.le_trans (by omega) bX11.size) (fun k h => by omega))
    all_goals have hDw : w.heap.size ≤ D := by omega
    all_goals generalize w11.setCell ⟨w.heap.size + 1, 0, none⟩ (.bool true) = X at hdX cX bXX ⊢
    all_goals have cX2 : ∀ o, (X.putObj D o).cell? ⟨w.heap.size + 1, 0, none⟩ = some (.bool true) := fun o => (Keeps.putObj (Z := fun k => k = D) X D o rfl).cell cX (by show ¬ w.heap.size + 1 = D; omega)
    all_goals refine ⟨by simp, .inl ⟨_, _, rfl, run_takeDeferred hdX, ?_⟩⟩
    all_goals refine ⟨.bool true, ?_, rfl, bXX.trans (belowK_b (w := w) (Nat.le_refl _) X D _ _ hDw hdX rfl rfl)⟩
    all_goals have cX3 := cX2 (.deferred none)
    all_goals generalize X.putObj D (.deferred none) = X2 at cX3 ⊢
    all_goals simp only [results, Tryd.f23]
    all_goals go_simp
theorem law_UtfSides (w : World) (hT : Lib.Utf8Tabs 0 1 w) (s : ByteArray) (hs0 : s.size ≤ 140737488351232) (hs : s.size ≤ 1048576) (a : Option Addr) (len cap : Nat) (zs : List Int) (h : IsRow .i32 w a len cap zs) (hy : len * 4 ≤ 140737488351232) :
    Calls Tryd.prog 23 #[.string s, .slice a len cap] w fun e w' => e = .returned (.bool true) ∧ Below w.heap.size w w' := by
  obtain ⟨hl, hR, hc, hw⟩ := h.rd
  have := UtfSides_of w hT s (by omega) a cap (zs.take len) (by omega) hR (by omega)
  rw [hl] at this
  exact this
end Go.Proofs.YtbkimhbpcmbflaaDoor.C
