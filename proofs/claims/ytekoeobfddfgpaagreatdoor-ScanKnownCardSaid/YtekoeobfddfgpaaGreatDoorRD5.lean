/-
  Of this seat's texts what the claim wants (printed by a program): D5.
-/
import Derived.Test.YtekoeobfddfgpaaGreatDoorRD4
set_option linter.unusedVariables false
set_option linter.unusedSimpArgs false
namespace Go.Proofs.YtekoeobfddfgpaaGreatDoor.C
open Go Go.RowKit Go.Shelf Go.Proofs.YtekoeobfddfgpaaGreatDoor.M Go.Proofs.YtekoeobfddfgpaaGreatDoor.Z
theorem u8_nat (c : UInt8) : ((c.toNat : Int)).toNat.toUInt8 = c := by
  rw [Int.toNat_natCast]; exact u8_of rfl
theorem idx_blk : ∀ c : UInt8, decide (0 ≤ Lib.indexByte [32, 9, 13, 10] c) = blk c := u8_all (by decide +kernel)
theorem idx_sgn : ∀ c : UInt8, decide (0 ≤ Lib.indexByte [38, 60, 61, 47, 45, 91, 93, 35, 42, 39, 92] c) = sgn c := u8_all (by decide +kernel)
theorem idxblk_any (c : UInt8) (w : World) : Calls Tryz.prog 46 #[.string ⟨#[32, 9, 13, 10]⟩, .int .u8 (c.toNat : Nat)] w fun e w' => ∃ i : Int, e = .returned (.int .i64 i) ∧ decide (0 ≤ i) = blk c ∧ w = w' := by
  refine (Tryz.strings_IndexByte ⟨#[32, 9, 13, 10]⟩ (c.toNat : Nat) w).mono ?_
  rintro e w' ⟨rfl, rfl⟩
  rw [u8_nat]
  exact ⟨_, rfl, idx_blk c, rfl⟩
theorem idxsgn_any (c : UInt8) (w : World) : Calls Tryz.prog 46 #[.string ⟨#[38, 60, 61, 47, 45, 91, 93, 35, 42, 39, 92]⟩, .int .u8 (c.toNat : Nat)] w fun e w' => ∃ i : Int, e = .returned (.int .i64 i) ∧ decide (0 ≤ i) = sgn c ∧ w = w' := by
  refine (Tryz.strings_IndexByte ⟨#[38, 60, 61, 47, 45, 91, 93, 35, 42, 39, 92]⟩ (c.toNat : Nat) w).mono ?_
  rintro e w' ⟨rfl, rfl⟩
  rw [u8_nat]
  exact ⟨_, rfl, idx_sgn c, rfl⟩
theorem u8_eqI {c k : UInt8} (h : c = k) : ((c.toNat : Int) == (k.toNat : Int)) = true := by rw [h]; simp
theorem u8_neI {c k : UInt8} (h : c ≠ k) : ((c.toNat : Int) == (k.toNat : Int)) = false := by
  simp only [beq_eq_false_iff_ne, ne_eq]
  intro e
  exact h (UInt8.toNat_inj.1 (by omega))
set_option maxHeartbeats 2000000 in
set_option maxRecDepth 100000 in
theorem piece_any (s : ByteArray) (h0 : 0 < s.size) (w : World) (hT : Lib.Utf8Tabs 2 3 w) (hsz : s.size ≤ 140737488351232) :
    Calls Tryz.prog 80 #[.string s] w fun e w' => e = .returned (.tuple #[.string (ba (pieceM (bl s)).1), .int .i64 ((pieceM (bl s)).2.1 : Nat), .int .i64 ((pieceM (bl s)).2.2 : Nat)]) ∧ Below w.heap.size w w' := by
  have hl := bl_len s
  cases hr : bl s with
  | nil => rw [hr] at hl; simp at hl; omega
  | cons c r =>
    obtain ⟨h1, h1e⟩ := get_bl (n := 0) (c := c) hr rfl
    have i0 : (0 : Int) < (s.size : Int) := by omega
    by_cases h39 : c = 39
    · subst h39
      have hA : pieceM (39 :: r) = quoA r := by
        simp only [pieceM, if_true, quoA]
        cases quo r <;> rfl
      have cQ := quoted_any s r hr w hsz
      rw [hA]
      have t1 : (((s[0]'h1).toNat : Int) == 39) = true := by rw [h1e]; rfl
      generalize quoA r = A at cQ ⊢
      clear hA hl hr h1e
      go_enter Tryz.func80, Tryz.ntmps80
      go_wp2_with fail
      refine cQ.mono ?_
      rintro e w' ⟨rfl, hb⟩
      go_wp2_with fail
      go_ret3
      exact ⟨rfl, hb⟩
    · have t1 : (((s[0]'h1).toNat : Int) == 39) = false := by rw [h1e]; exact u8_neI (k := 39) h39
      by_cases h92 : c = 92
      · subst h92
        have hA : pieceM (92 :: r) = escA r := by
          simp only [pieceM, if_neg h39, if_true, escA]
          cases esc r <;> rfl
        have cQ := escape_any s r hr w hT hsz
        rw [hA]
        have t2 : (((s[0]'h1).toNat : Int) == 92) = true := by rw [h1e]; rfl
        generalize escA r = A at cQ ⊢
        clear hA hl hr h1e h39
        go_enter Tryz.func80, Tryz.ntmps80
        go_wp2_with fail
        refine cQ.mono ?_
        rintro e w' ⟨rfl, hb⟩
        go_wp2_with fail
        go_ret3
        exact ⟨rfl, hb⟩
      · have t2 : (((s[0]'h1).toNat : Int) == 92) = false := by rw [h1e]; exact u8_neI (k := 92) h92
        have hA : pieceM (c :: r) = if blk c || sgn c then ([], 0, 0) else ((c :: r).take (dw (c :: r)), dw (c :: r), 0) := by simp only [pieceM, if_neg h39, if_neg h92]
        have cB := fun W => idxblk_any (s[0]'h1) W
        have cS := fun W => idxsgn_any (s[0]'h1) W
        rw [h1e] at cB cS
        have e1 : ((s[0]'h1).toNat : Int) = (c.toNat : Int) := by rw [h1e]
        rw [hA]
        cases hb : blk c with
        | true =>
          rw [hb] at cB
          simp only [Bool.true_or, if_true]
          have H1e := Lib.hid e1
          rw [← e1] at cB cS
          clear hA hl hr h1e h39 h92 hb e1 cS
          go_enter Tryz.func80, Tryz.ntmps80
          go_wp2_with fail
          refine (cB _).mono ?_
          rintro e w' ⟨i, rfl, hi, rfl⟩
          have hi' : 0 ≤ i := by simpa using hi
          clear hi
          go_wp2_with fail
          go_ret3
          exact ⟨rfl, Below.refl _ _⟩
        | false =>
          rw [hb] at cB
          rw [← e1] at cB cS
          cases hs : sgn c with
          | true =>
            rw [hs] at cS
            simp only [Bool.false_or, if_true]
            clear hA hl hr h1e h39 h92 hb e1 hs
            go_enter Tryz.func80, Tryz.ntmps80
            go_wp2_with fail
            refine (cB _).mono ?_
            rintro e w' ⟨i, rfl, hi, rfl⟩
            have hi' : i < 0 := by simpa using hi
            clear hi cB
            go_wp2_with fail
            refine (cS _).mono ?_
            rintro e w' ⟨j, rfl, hj, rfl⟩
            have hj' : 0 ≤ j := by simpa using hj
            clear hj cS
            go_wp2_with fail
            go_ret3
            exact ⟨rfl, Below.refl _ _⟩
          | false =>
            rw [hs] at cS
            simp only [Bool.false_or, Bool.false_eq_true, if_false]
            have cD := decode_rest s 0 w hT h0
            rw [List.drop_zero, hr] at cD
            have hx0 : s.extract 0 s.size = s := by simp
            rw [hx0] at cD
            have hwl := dw_len (l := c :: r) (by simp)
            have hwp := dw_pos (l := c :: r) (by simp)
            have hsl : (c :: r).length = s.size := by rw [← hl, hr]
            have hx : s.extract 0 (dw (c :: r)) = ba ((c :: r).take (dw (c :: r))) := by
              rw [extract_ba (by omega), hr]; rfl
            generalize hg : dw (c :: r) = d at *
            have hdI : (d : Int) ≤ (s.size : Int) := by omega
            have hx' : Value.string (s.extract 0 d) = .string (ba ((c :: r).take d)) := by rw [hx]
            have Hx := Lib.hid hx'
            clear hA hl hr h1e h39 h92 hb e1 hs hx hx' hg hx0 hsl
            go_enter Tryz.func80, Tryz.ntmps80
            go_wp2_with fail
            refine (cB _).mono ?_
            rintro e w' ⟨i, rfl, hi, rfl⟩
            have hi' : i < 0 := by simpa using hi
            clear hi cB
            go_wp2_with fail
            refine (cS _).mono ?_
            rintro e w' ⟨j, rfl, hj, rfl⟩
            have hj' : j < 0 := by simpa using hj
            clear hj cS
            go_wp2_with fail
            refine cD.mono ?_
            rintro e w' ⟨rfl, hb⟩
            go_wp2_with fail
            go_ret3
            rw [← Hx.out]
            exact ⟨rfl, hb⟩
end Go.Proofs.YtekoeobfddfgpaaGreatDoor.C
