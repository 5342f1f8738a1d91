/-
  The statement PointsPlaces, walked.
-/
import Derived.Test.YtbkimhbpcmbflaaDoorK9
set_option linter.unusedVariables false
set_option linter.unusedSimpArgs false
namespace Go.Proofs.YtbkimhbpcmbflaaDoor.C
open Go Go.RowKit Go.Proofs.YtbkimhbpcmbflaaDoor.M Go.Proofs.YtbkimhbpcmbflaaDoor.E Go.Proofs.YtbkimhbpcmbflaaDoor.PAll Go.Proofs.YtbkimhbpcmbflaaDoorW.PrintWords

def Sp2 (w W : World) (B p q : Nat) (us vs : List (List UInt8)) : Prop := PL W B p us ∧ PL W B q vs ∧ Below w.heap.size w W
theorem Sp2.next {w W w' : World} {B p q : Nat} {us vs : List (List UInt8)} (h : Sp2 w W B p q us vs) (hB : B ≤ w.heap.size) (hb : Below W.heap.size W w') : Sp2 w w' B p q us vs :=
  ⟨h.1.below hb (Nat.le_trans hB h.2.2.size), h.2.1.below hb (Nat.le_trans hB h.2.2.size), h.2.2.trans (hb.mono h.2.2.size)⟩
/-- Measure, as the others read it -/
theorem measure_PL (s : ByteArray) (w : World) (hT : Lib.Utf8Tabs 0 1 w) (hs : s.size ≤ 1048576) :
    Calls Tryd.prog 51 #[.string s] w fun e w' => ∃ p, e = .returned (.pointer (some ⟨p, 0, none⟩)) ∧ PL w' w'.heap.size p (sfx (bl s)) ∧ Below w.heap.size w w' :=
  (measure_any s w hT hs).mono fun e w' ⟨he, hb, v, h1, h2⟩ => ⟨_, he, PL_of h1 h2, hb⟩
theorem of_len (s : ByteArray) (W : World) (hs : s.size ≤ 1048576) : Calls Tryd.prog 24 #[.string s] W fun e w' => ∃ A c, e = .returned (.slice A (sfx (bl s)).length c) ∧ Below W.heap.size W w' := by
  obtain ⟨k, hk⟩ := of_ref s (by omega)
  refine (glossaryref02_Of.calls k s _ W hk).mono fun e w' ⟨v, he, hr, hb⟩ => ?_
  obtain ⟨A, c, rfl⟩ := Kd.R_slice hr
  have : (pts (bl s)).length = (sfx (bl s)).length := by unfold pts; rw [List.length_map]
  rw [this] at he
  exact ⟨A, c, he, hb⟩

set_option maxHeartbeats 2000000 in
set_option maxRecDepth 1000000 in
theorem PointsPlaces_of (w : World) (hT : Lib.Utf8Tabs 0 1 w) (hE : HE w) (s : ByteArray) (hs : s.size ≤ 1048576) (t : ByteArray) (ht : t.size ≤ 1048576) (A : Option Addr) (cap : Nat) (xs : List Int) (hl : xs.length ≤ 9223372036854775806) (hR : Rd w w.heap.size .i64 A xs) :
    Calls Tryd.prog 18 #[.string s, .string t, .slice A xs.length cap] w fun e w' => e = .returned (.bool true) ∧ Below w.heap.size w w' := by
  have hsl := sfx_len (bl s)
  have htl := sfx_len (bl t)
  rw [bl_len] at hsl htl
  have cM1 := measure_PL s w hT hs
  have cM2 := fun W (h : Lib.Utf8Tabs 0 1 W) => measure_PL t W h ht
  obtain ⟨n, hn⟩ : ∃ n, xs.length = n := ⟨_, rfl⟩
  rw [hn]
  have HR := Lib.hid hR
  have Hn := Lib.hid hn
  have hln : n ≤ 9223372036854775806 := by omega
  clear hR hn
  go_enter Tryd.func18, Tryd.ntmps18
  go_wp2_with fail
  refine cM1.mono ?_
  rintro e w1 ⟨p, rfl, hp1, hb1⟩
  have hT1 := tabs_below hT hb1 (Nat.le_refl _)
  go_wp2_with fail
  refine (cM2 _ hT1).mono ?_
  rintro e w2 ⟨q, rfl, hq2, hb2⟩
  have hb12 := hb1.trans (hb2.mono hb1.size)
  have hp2 := (hp1.below hb2 (Nat.le_refl _)).more hb2.size
  have hS : Sp2 w2 w2 w2.heap.size p q (sfx (bl s)) (sfx (bl t)) := ⟨hp2, hq2, Below.refl _ _⟩
  have cUp := fun W (h : Sp2 w2 W w2.heap.size p q (sfx (bl s)) (sfx (bl t))) => (units_any W w2.heap.size p (sfx (bl s)) h.1 (by omega)).mono (R' := fun e w' => e = .returned (.int .i64 ((sfx (bl s)).length : Nat)) ∧ Sp2 w2 w' w2.heap.size p q (sfx (bl s)) (sfx (bl t))) (fun e w' ⟨he, hd⟩ => ⟨he, hd ▸ h⟩)
  have cUq := fun W (h : Sp2 w2 W w2.heap.size p q (sfx (bl s)) (sfx (bl t))) => (units_any W w2.heap.size q (sfx (bl t)) h.2.1 (by omega)).mono (R' := fun e w' => e = .returned (.int .i64 ((sfx (bl t)).length : Nat)) ∧ Sp2 w2 w' w2.heap.size p q (sfx (bl s)) (sfx (bl t))) (fun e w' ⟨he, hd⟩ => ⟨he, hd ▸ h⟩)
  have cOs := fun W (h : Sp2 w2 W w2.heap.size p q (sfx (bl s)) (sfx (bl t))) => (of_len s W hs).mono (R' := fun e w' => ∃ A c, e = .returned (.slice A (sfx (bl s)).length c) ∧ Sp2 w2 w' w2.heap.size p q (sfx (bl s)) (sfx (bl t))) (fun e w' ⟨A, c, he, hd⟩ => ⟨A, c, he, h.next (Nat.le_refl _) hd⟩)
  have cOt := fun W (h : Sp2 w2 W w2.heap.size p q (sfx (bl s)) (sfx (bl t))) => (of_len t W ht).mono (R' := fun e w' => ∃ A c, e = .returned (.slice A (sfx (bl t)).length c) ∧ Sp2 w2 w' w2.heap.size p q (sfx (bl s)) (sfx (bl t))) (fun e w' ⟨A, c, he, hd⟩ => ⟨A, c, he, h.next (Nat.le_refl _) hd⟩)
  have cPp := fun W x (h : Sp2 w2 W w2.heap.size p q (sfx (bl s)) (sfx (bl t))) => (placed_any W w2.heap.size p s h.1 h.2.2.size hs x).mono (R' := fun e w' => e = .returned (.bool true) ∧ Sp2 w2 w' w2.heap.size p q (sfx (bl s)) (sfx (bl t))) (fun e w' ⟨he, hd⟩ => ⟨he, h.next (Nat.le_refl _) hd⟩)
  have cPq := fun W x (h : Sp2 w2 W w2.heap.size p q (sfx (bl s)) (sfx (bl t))) => (placed_any W w2.heap.size q t h.2.1 h.2.2.size ht x).mono (R' := fun e w' => e = .returned (.bool true) ∧ Sp2 w2 w' w2.heap.size p q (sfx (bl s)) (sfx (bl t))) (fun e w' ⟨he, hd⟩ => ⟨he, h.next (Nat.le_refl _) hd⟩)
  obtain ⟨a, ha⟩ : ∃ a, (sfx (bl s)).length = a := ⟨_, rfl⟩
  obtain ⟨b, hb⟩ : ∃ b, (sfx (bl t)).length = b := ⟨_, rfl⟩
  rw [ha] at cUp cOs
  rw [hb] at cUq cOt
  generalize sfx (bl s) = us at cUp cUq cOs cOt cPp cPq hS
  generalize sfx (bl t) = vs at cUp cUq cOs cOt cPp cPq hS
  clear cM1 cM2 hp1 hq2 hp2 ha hb hsl htl hT1
  go_wp2_with fail
  refine (cUp _ hS).mono ?_
  rintro e w3 ⟨rfl, hS3⟩
  go_wp2_with fail
  refine (cOs _ hS3).mono ?_
  rintro e w4 ⟨A4, c4, rfl, hS4⟩
  go_wp2_with fail
  refine (cUq _ hS4).mono ?_
  rintro e w5 ⟨rfl, hS5⟩
  go_wp2_with fail
  refine (cOt _ hS5).mono ?_
  rintro e w6 ⟨A6, c6, rfl, hS6⟩
  clear hS hS3 hS4 hS5
  go_wp2_with fail
  go_loopw [9] (fun kv wr => ∃ k : Nat, kv = .int .i64 k ∧ k ≤ n ∧ Sp2 w2 wr w2.heap.size p q us vs) (fun kv _ => n - (intOf kv).toNat)
  case atStart => exact ⟨0, rfl, Nat.zero_le _, hS6⟩
  case round =>
    obtain ⟨k, rfl, hk, hSr⟩ := hrel
    have hbr := hb12.trans (hSr.2.2.mono hb12.size)
    have hEr : HE wr := hE.below hbr (Nat.le_refl _)
    by_cases hlt : k < n
    · by_cases h60 : k < 60
      · rcases HR.out with h0 | ⟨ad, rfl, hbl, hc⟩
        · have := Hn.out; rw [h0] at this; simp at this; omega
        · obtain ⟨x, hxk⟩ : ∃ x, xs[k]? = some x := ⟨_, List.getElem?_eq_getElem (show k < xs.length by have := Hn.out; omega)⟩
          have hcell : ∀ W, Sp2 w2 W w2.heap.size p q us vs → W.cell? (ad.add k) = some (.int .i64 x) := fun W h => ((hb12.trans (h.2.2.mono hb12.size)).cell (p := ad.add k) (by rw [add_block]; exact hbl)).trans (hc k x hxk)
          have hltI : (k : Int) < n := by omega
          have k1 := hcell _ hSr
          have HC := Lib.hid hcell
          clear hcell hc hxk HR
          go_wp2_with fail
          refine (cPp _ _ hSr).mono ?_
          rintro e w7 ⟨rfl, hS7⟩
          have k2 := HC.out _ hS7
          go_wp2_with fail
          refine (cPq _ _ hS7).mono ?_
          rintro e w8 ⟨rfl, hS8⟩
          have k3 := HC.out _ hS8
          go_wp2_with fail
          refine (cPp _ _ hS8).mono ?_
          rintro e w9 ⟨rfl, hS9⟩
          go_wp2
          go_roundw
          case rel => exact ⟨k + 1, by go_num, by omega, hS9⟩
          case measure => simp [intOf]; omega
      · go_wp2_with fail
        refine (works_any _ hEr).mono ?_
        rintro e w7 ⟨rfl, hb7⟩
        go_wp2
        go_ret
        exact ⟨rfl, hbr.trans (hb7.mono hbr.size)⟩
    · go_wp2_with fail
      refine (works_any _ hEr).mono ?_
      rintro e w7 ⟨rfl, hb7⟩
      go_wp2
      go_ret
      exact ⟨rfl, hbr.trans (hb7.mono hbr.size)⟩
theorem law_PointsPlaces (w : World) (hT : Lib.Utf8Tabs 0 1 w) (hE : HE w) (s : ByteArray) (hs : s.size ≤ 140737488351232) (hsb : s.size ≤ 1048576) (t : ByteArray) (ht : t.size ≤ 140737488351232) (htb : t.size ≤ 1048576)
    (a : Option Addr) (len cap : Nat) (zs : List Int) (h : IsRow .i64 w a len cap zs) (hy : len * 8 ≤ 140737488351232) :
    Calls Tryd.prog 18 #[.string s, .string t, .slice a len cap] w fun e w' => e = .returned (.bool true) ∧ Below w.heap.size w w' := by
  obtain ⟨hl, hR, hc, hw⟩ := h.rd
  have := PointsPlaces_of w hT hE s hsb t htb a cap (zs.take len) (by omega) hR
  rw [hl] at this
  exact this
end Go.Proofs.YtbkimhbpcmbflaaDoor.C
