/-
  The statement PointsRange, walked: wide, told, units.
-/
import Derived.Test.YtbkimhbpcmbflaaDoorGB
import Derived.Test.YtbkimhbpcmbflaaDoorGA
set_option linter.unusedVariables false
set_option linter.unusedSimpArgs false
namespace Go.Proofs.YtbkimhbpcmbflaaDoor.C
open Go Go.RowKit Go.Proofs.YtbkimhbpcmbflaaDoor.M Go.Proofs.YtbkimhbpcmbflaaDoor.E Go.Proofs.YtbkimhbpcmbflaaDoor.PAll Go.Proofs.YtbkimhbpcmbflaaDoorW.PrintWords

set_option maxHeartbeats 2000000 in
set_option maxRecDepth 1000000 in
theorem width_any (s : ByteArray) (w : World) (h0 : 0 < s.size) (hs : s.size ≤ 140737488351232) :
    Calls Tryd.prog 97 #[.string s] w fun e w' => e = .returned (.int .i64 (dw (bl s) : Nat)) ∧ Below w.heap.size w w' := by
  have hne : bl s ≠ [] := by intro h; have := bl_len s; rw [h] at this; simp at this; omega
  have hw1 := dw_pos hne
  have hw2 := dw_len hne
  rw [bl_len] at hw2
  obtain ⟨d, hd⟩ : ∃ d, dw (bl s) = d := ⟨_, rfl⟩
  have hd0 : Utf8.decode s 0 = (dc (bl s), d) := by have := (Lib.decodeL_drop s 0).symm; rw [List.drop_zero] at this; rw [← hd]; exact this
  rw [hd] at hw1 hw2 ⊢
  clear hd hne
  go_enter Tryd.func97, Tryd.ntmps97
  go_wp2
  go_loopw [] (fun wr => ∃ pos : Nat, (pos = 0 ∨ pos = d) ∧ wr.heap[w.heap.size]? = some (.stringIter s pos) ∧ Below w.heap.size w wr) (fun wr => s.size - wr.iterPos w.heap.size)
  case atStart =>
    refine ⟨0, .inl rfl, ?_, ?_⟩
    · simpa using World.iter_heap w s 0
    · exact (Below.refl _ w).alloc (Nat.le_refl _) (.stringIter s 0)
  case round =>
    obtain ⟨pos, hpos, hit, hbw⟩ := hrel
    by_cases hp : pos < s.size
    · obtain ⟨c, m, hcm⟩ : ∃ c m, Utf8.decode s pos = (c, m) := ⟨_, _, rfl⟩
      have hnx : ∀ ty, (Instr.next (.pointer (some ⟨w.heap.size, 0, none⟩)) true ty).run Tryd.prog wr = .ok (.tuple #[.bool true, .int .i64 pos, .int .i32 (c : Nat)]) (wr.iterAt w.heap.size s (pos + m)) := fun ty => by
        have := Lib.run_next_any_at (P := Tryd.prog) wr w.heap.size s pos ty hit hp
        rw [hcm] at this
        exact this
      have hbw2 : Below w.heap.size w (wr.iterAt w.heap.size s (pos + m)) := Lib.below_iterAt hbw (Nat.le_refl _) s _
      have Hit2 := Lib.hid (Lib.iterAt_heap wr w.heap.size s pos (pos + m) hit)
      have Hhit := Lib.hid hit
      by_cases hz : pos = 0
      · subst hz
        have hmd : m = d := by rw [hd0] at hcm; exact (Prod.mk.inj hcm).2.symm
        subst hmd
        have Hit3 : Hid ((wr.iterAt w.heap.size s m).heap[w.heap.size]? = some (.stringIter s m)) := by have := Hit2.out; rw [Nat.zero_add] at this; exact this
        rw [Nat.zero_add] at hbw2 hnx
        clear hpos hit hcm hd0 Hit2
        go_wp2
        go_roundw
        case rel => exact ⟨m, .inr rfl, Hit3.out, hbw2⟩
        case measure =>
          simp only [World.iterPos, Hit3.out, Hhit.out]
          omega
      · have hpd : pos = d := by omega
        subst hpd
        have hgt : (0 : Int) < (pos : Int) := by omega
        clear hpos hit hcm hd0
        go_wp2
        go_ret
        exact ⟨rfl, hbw2⟩
    · have hnx : ∀ ty, (Instr.next (.pointer (some ⟨w.heap.size, 0, none⟩)) true ty).run Tryd.prog wr = _ := fun ty => Lib.run_next_end_at wr w.heap.size s pos ty hit hp
      have hds : d = s.size := by omega
      subst hds
      go_wp2
      go_ret
      exact ⟨rfl, by assumption⟩
set_option maxHeartbeats 2000000 in
set_option maxRecDepth 1000000 in
theorem units_range (s : ByteArray) (w : World) (hs : s.size ≤ 1048576) :
    Calls Tryd.prog 53 #[.string s] w fun e w' => e = .returned (.int .i64 ((sfx (bl s)).length : Nat)) ∧ Below w.heap.size w w' := by
  have hbl := bl_len s
  have hsl := sfx_len (bl s)
  go_enter Tryd.func53, Tryd.ntmps53
  go_wp2
  go_loopw [3] (fun nv wr => ∃ (pos : Nat) (pre : List (List UInt8)), nv = .int .i64 (pre.length : Nat) ∧ Hid (sfx (bl s) = pre ++ sfx ((bl s).drop pos)) ∧ wr.heap[w.heap.size]? = some (.stringIter s pos) ∧ Below w.heap.size w wr) (fun _ wr => s.size - wr.iterPos w.heap.size)
  case atStart =>
    refine ⟨0, [], rfl, by simp [Hid], ?_, ?_⟩
    · simpa using World.iter_heap w s 0
    · exact (Below.refl _ w).alloc (Nat.le_refl _) (.stringIter s 0)
  case round =>
    obtain ⟨pos, pre, rfl, hpre, hit, hbw⟩ := hrel
    have hpl : pre.length ≤ 1048576 := by
      have := congrArg List.length hpre.out
      rw [List.length_append] at this
      omega
    by_cases hp : pos < s.size
    · obtain ⟨t, ht⟩ : ∃ t, (bl s).drop pos = t := ⟨_, rfl⟩
      have hne : t ≠ [] := by rw [← ht]; exact bl_nonempty hp
      have hd : Utf8.decode s pos = (dc t, dw t) := by rw [← ht]; exact (Lib.decodeL_drop s pos).symm
      have hnx : ∀ ty, (Instr.next (.pointer (some ⟨w.heap.size, 0, none⟩)) true ty).run Tryd.prog wr = .ok (.tuple #[.bool true, .int .i64 pos, .int .i32 (dc t : Nat)]) (wr.iterAt w.heap.size s (pos + dw t)) := fun ty => by
        have := Lib.run_next_any_at (P := Tryd.prog) wr w.heap.size s pos ty hit hp
        rw [hd] at this
        exact this
      have hw1 := dw_pos hne
      have hpre2 : Hid (sfx (bl s) = (pre ++ [t]) ++ sfx ((bl s).drop (pos + dw t))) := by
        show sfx (bl s) = _
        rw [← List.drop_drop, ht, hpre.out, ht, sfx_cons hne]; simp
      have Hit2 := Lib.hid (Lib.iterAt_heap wr w.heap.size s pos (pos + dw t) hit)
      have hbw2 : Below w.heap.size w (wr.iterAt w.heap.size s (pos + dw t)) := Lib.below_iterAt hbw (Nat.le_refl _) s _
      have Hhit := Lib.hid hit
      have Hm := Lib.hid (show s.size - (pos + dw t) < s.size - pos by omega)
      clear hd hit ht hne hbl hsl
      go_wp2
      go_roundw
      case rel => exact ⟨pos + dw t, pre ++ [t], by simp, hpre2, Hit2.out, hbw2⟩
      case measure =>
        simp only [World.iterPos, Hit2.out, Hhit.out]
        exact Hm.out
    · have hnx : ∀ ty, (Instr.next (.pointer (some ⟨w.heap.size, 0, none⟩)) true ty).run Tryd.prog wr = _ := fun ty => Lib.run_next_end_at wr w.heap.size s pos ty hit hp
      have hdone : Hid (sfx (bl s) = pre) := by
        show _ = _
        have h1 := hpre.out
        rw [List.drop_of_length_le (by omega), sfx_nil, List.append_nil] at h1
        exact h1
      go_wp2
      go_ret
      exact ⟨by rw [hdone.out]; rfl, by assumption⟩
set_option maxHeartbeats 2000000 in
set_option maxRecDepth 1000000 in
/-- told: the point of the unit at a byte -/
theorem told_any (s : ByteArray) (p : Nat) (hp : p < s.size) (hs : s.size ≤ 1048576) (t : List UInt8) (ht : (bl s).drop p = t) (w : World) :
    Calls Tryd.prog 54 #[.string s, .int .i64 (p : Nat), .int .i32 (dc t : Nat)] w fun e w' => e = .returned (.int .i32 (pt t : Nat)) ∧ Below w.heap.size w w' := by
  have hne : t ≠ [] := by rw [← ht]; exact bl_nonempty hp
  have hpI : (p : Int) < s.size := by omega
  have hbx : bl (s.extract p s.size) = t := by rw [bl_extract, ht]
  have hsx : (s.extract p s.size).size = s.size - p := by simp
  have cW := fun W => width_any (s.extract p s.size) W (by omega) (by omega)
  rw [hbx] at cW
  have hb0 : (s[p]'hp).toNat = b0 t := by rw [← ht]; exact byte_at hp
  have hlt := (s[p]'hp).toNat_lt
  by_cases hc : dc t = 65533
  · have hcI : ((dc t : Nat) : Int) = 65533 := by omega
    rw [hcI]
    cases hi : ill t with
    | true =>
      have hd : dc t = 65533 ∧ dw t = 1 := by simpa [ill] using hi
      have e : pt t = 1114112 + b0 t := by simp [pt, hi]
      rw [hd.2] at cW
      rw [e, ← hb0]
      have hw1 : wrap32 ((s[p]'hp).toNat : Int) = ((s[p]'hp).toNat : Int) := w32 (by omega) (by omega)
      have hw2 : wrap32 (1114112 + ((s[p]'hp).toNat : Int)) = ((1114112 + (s[p]'hp).toNat : Nat) : Int) := by rw [w32 (by omega) (by omega)]; omega
      clear e hd hi hc hcI hne hbx hsx hb0
      go_enter Tryd.func54, Tryd.ntmps54
      go_wp2_with fail
      refine (cW _).mono ?_
      rintro e w1 ⟨rfl, hb1⟩
      go_wp2
      go_ret
      exact ⟨by rw [Int.natCast_add]; rfl, hb1⟩
    | false =>
      have hd : dw t ≠ 1 := by
        intro h
        have : ill t = true := by simp [ill, hc, h]
        rw [hi] at this; cases this
      have e : pt t = dc t := pt_of_ok hi
      have hdI : ((dw t : Int) == 1) = false := beq_eq_false_iff_ne.2 (by omega)
      rw [e, hcI]
      clear e hi hne hbx hsx hb0 hc
      go_enter Tryd.func54, Tryd.ntmps54
      go_wp2_with fail
      refine (cW _).mono ?_
      rintro e w1 ⟨rfl, hb1⟩
      go_wp2
      go_ret
      exact ⟨rfl, hb1⟩
  · have hi : ill t = false := by
      cases h : ill t with
      | false => rfl
      | true => exact absurd (show dc t = 65533 ∧ dw t = 1 by simpa [ill] using h).1 hc
    have e : pt t = dc t := pt_of_ok hi
    have hcI : (((dc t : Nat) : Int) == 65533) = false := beq_eq_false_iff_ne.2 (by omega)
    rw [e]
    clear e hi hne hbx hsx hb0 hc cW
    go_enter Tryd.func54, Tryd.ntmps54
    go_wp2
    go_ret
    exact ⟨rfl, Below.refl _ _⟩
theorem runes_get {l : List UInt8} {k : Nat} {t : List UInt8} (h : (sfx l)[k]? = some t) : (runes l)[k]? = some ((dc t : Nat) : Int) := by unfold runes; rw [List.getElem?_map, h]; rfl
theorem pts_get {l : List UInt8} {k : Nat} {t : List UInt8} (h : (sfx l)[k]? = some t) : (pts l)[k]? = some ((pt t : Nat) : Int) := by unfold pts; rw [List.getElem?_map, h]; rfl
set_option maxHeartbeats 4000000 in
set_option maxRecDepth 1000000 in
theorem law_PointsRange (w : World) (hT : Lib.Utf8Tabs 0 1 w) (hE : HE w) (s : ByteArray) (hs0 : s.size ≤ 140737488351232) (hs : s.size ≤ 1048576) :
    Calls Tryd.prog 14 #[.string s] w fun e w' => e = .returned (.bool true) ∧ Below w.heap.size w w' := by
  have hsl := sfx_len (bl s)
  have hbl := bl_len s
  have cO : Calls Tryd.prog 25 #[.string s] w fun e w' => ∃ A m c, e = .returned (.slice A m c) ∧ m = (sfx (bl s)).length ∧ Rd w' w'.heap.size .i32 A (pts (bl s)) ∧ Below w.heap.size w w' :=
    (of_any s w (by omega) (by omega)).mono fun e w' ⟨v, he, hr, hb⟩ => by
      obtain ⟨A, c, rfl, _, hrd⟩ := hr.reads
      exact ⟨A, _, c, he, by unfold pts; rw [List.length_map], hrd, hb⟩
  have cX := fun W => runes_conv s W (by omega)
  have hrl := runes_len (bl s)
  rw [hrl] at cX
  have cM := fun W (h : Lib.Utf8Tabs 0 1 W) => measure_PL s W h hs
  have cN := fun W => units_range s W hs
  obtain ⟨n, hn⟩ : ∃ n, (sfx (bl s)).length = n := ⟨_, rfl⟩
  rw [hn] at cO cX cN
  go_enter Tryd.func14, Tryd.ntmps14
  go_wp2_with fail
  refine cO.mono ?_
  rintro e w1 ⟨A1, m1, c1, rfl, rfl, hl1, hb1⟩
  obtain ⟨c2, w2, hcv, hr2, hc2, hb2⟩ := cX w1
  have hb12 := hb1.trans (hb2.mono hb1.size)
  have hl2 := (hl1.below hb2 (Nat.le_refl _)).more hb2.size
  have hT2 := tabs_below hT hb12 (Nat.le_refl _)
  go_wp2_with fail
  refine (cM _ hT2).mono ?_
  rintro e w3 ⟨p, rfl, hp3, hb3⟩
  have hb13 := hb12.trans (hb3.mono hb12.size)
  have hl3 := (hl2.below hb3 (Nat.le_refl _)).more hb3.size
  have hr3 := (hr2.below hb3 (Nat.le_refl _)).more hb3.size
  have hT3 := tabs_below hT hb13 (Nat.le_refl _)
  have hle := fun i hi => off_le (bl s) (i := i) hi
  have cU := fun W (h : Sp w3 W w3.heap.size p (sfx (bl s))) => (units_any W w3.heap.size p (sfx (bl s)) h.1 (by omega)).mono (R' := fun e w' => e = .returned (.int .i64 ((sfx (bl s)).length : Nat)) ∧ Sp w3 w' w3.heap.size p (sfx (bl s))) (fun e w' ⟨he, hd⟩ => ⟨he, hd ▸ h⟩)
  have cN' := fun W (h : Sp w3 W w3.heap.size p (sfx (bl s))) => (cN W).mono (R' := fun e w' => e = .returned (.int .i64 (m1 : Nat)) ∧ Sp w3 w' w3.heap.size p (sfx (bl s))) (fun e w' ⟨he, hd⟩ => ⟨he, h.next (Nat.le_refl _) hd⟩)
  rw [hn] at cU
  have hS : Sp w3 w3 w3.heap.size p (sfx (bl s)) := ⟨hp3, Below.refl _ _⟩
  go_wp2_with fail
  refine (cU _ hS).mono ?_
  rintro e w4 ⟨rfl, hS4⟩
  go_wp2_with fail
  refine (cU _ hS4).mono ?_
  rintro e w5 ⟨rfl, hS5⟩
  go_wp2_with fail
  refine (cN' _ hS5).mono ?_
  rintro e w6 ⟨rfl, hS6⟩
  go_wp2
  go_loopw [6] (fun kv wr => ∃ k : Nat, kv = .int .i64 k ∧ k ≤ m1 ∧ wr.heap[w6.heap.size]? = some (.stringIter s (off (sfx (bl s)) k)) ∧ Sp w3 wr w3.heap.size p (sfx (bl s))) (fun kv _ => m1 - (intOf kv).toNat)
  case atStart =>
    refine ⟨0, rfl, Nat.zero_le _, ?_, ?_⟩
    · rw [off_zero]; simpa using World.iter_heap w6 s 0
    · exact ⟨hS6.1.below ((Below.refl w6.heap.size w6).alloc (Nat.le_refl _) (.stringIter s 0)) hS6.2.size, hS6.2.alloc hS6.2.size (.stringIter s 0)⟩
  case round =>
    obtain ⟨k, rfl, hk, hit, hSr⟩ := hrel
    have hb3w := hSr.2.size
    by_cases hlt : k < m1
    · obtain ⟨t, ht⟩ : ∃ t, (sfx (bl s))[k]? = some t := ⟨_, List.getElem?_eq_getElem (show k < (sfx (bl s)).length by omega)⟩
      have et := sfx_at _ _ _ ht
      have hne := sfx_ne (List.mem_of_getElem? ht)
      have hs1 := off_succ ht
      have hs2 := hle (k + 1) (by omega)
      rw [hbl] at hs2
      have hw1 := dw_pos hne
      have gp := pts_get ht
      have gr := runes_get ht
      obtain ⟨pos, hpos⟩ : ∃ pos, off (sfx (bl s)) k = pos := ⟨_, rfl⟩
      rw [hpos] at hit et hs1
      have hp : pos < s.size := by omega
      have hd : Utf8.decode s pos = (dc t, dw t) := by rw [et]; exact (Lib.decodeL_drop s pos).symm
      have hnx : ∀ ty, (Instr.next (.pointer (some ⟨w6.heap.size, 0, none⟩)) true ty).run Tryd.prog wr = .ok (.tuple #[.bool true, .int .i64 pos, .int .i32 (dc t : Nat)]) (wr.iterAt w6.heap.size s (pos + dw t)) := fun ty => by
        have := Lib.run_next_any_at (P := Tryd.prog) wr w6.heap.size s pos ty hit hp
        rw [hd] at this
        exact this
      have Hit2 := Lib.iterAt_heap wr w6.heap.size s pos (pos + dw t) hit
      have hb36 := hS6.2.size
      have hbw2 : Below w3.heap.size w3 (wr.iterAt w6.heap.size s (pos + dw t)) := Lib.below_iterAt hSr.2 hb36 s _
      have hS0 : Sp w3 (wr.iterAt w6.heap.size s (pos + dw t)) w3.heap.size p (sfx (bl s)) := ⟨hS.1.below hbw2 (Nat.le_refl _), hbw2⟩
      have hblt : w6.heap.size < (wr.iterAt w6.heap.size s (pos + dw t)).heap.size := (Array.getElem?_eq_some_iff.1 Hit2).1
      have hSt : Hid ((wr.iterAt w6.heap.size s (pos + dw t)).heap[w6.heap.size]? = some (.stringIter s (pos + dw t))) := Hit2
      have stp : ∀ W w' : World, Sp w3 W w3.heap.size p (sfx (bl s)) ∧ Hid (W.heap[w6.heap.size]? = some (.stringIter s (pos + dw t))) → Below W.heap.size W w' → Sp w3 w' w3.heap.size p (sfx (bl s)) ∧ Hid (w'.heap[w6.heap.size]? = some (.stringIter s (pos + dw t))) := fun W w' h hb =>
        ⟨h.1.next (Nat.le_refl _) hb, (hb.block _ (Array.getElem?_eq_some_iff.1 h.2.out).1).trans h.2.out⟩
      have cT := fun W (h : Sp w3 W w3.heap.size p (sfx (bl s)) ∧ Hid (W.heap[w6.heap.size]? = some (.stringIter s (pos + dw t)))) => (told_any s pos hp hs t et.symm W).mono (R' := fun e w' => e = .returned (.int .i32 (pt t : Nat)) ∧ Sp w3 w' w3.heap.size p (sfx (bl s)) ∧ Hid (w'.heap[w6.heap.size]? = some (.stringIter s (pos + dw t)))) (fun e w' ⟨he, hb⟩ => ⟨he, stp W w' h hb⟩)
      have hnp : nextP (bl s) (pos : Int) = ((pt t : Int), (dw t : Int)) := by rw [nextP_in _ _ (by rw [bl_len]; exact hp), ← et]
      have cNx := fun W (h : Sp w3 W w3.heap.size p (sfx (bl s)) ∧ Hid (W.heap[w6.heap.size]? = some (.stringIter s (pos + dw t)))) => (next_any s (pos : Int) W (tabs_below hT3 h.1.2 (Nat.le_refl _)) hs0).mono (R' := fun e w' => e = .returned (.tuple #[.int .i32 (pt t : Nat), .int .i64 (dw t : Nat)]) ∧ Sp w3 w' w3.heap.size p (sfx (bl s)) ∧ Hid (w'.heap[w6.heap.size]? = some (.stringIter s (pos + dw t)))) (fun e w' ⟨he, hb⟩ => ⟨by rw [he, hnp], stp W w' h hb⟩)
      have cB := fun W (j : Nat) (hj : j ≤ (sfx (bl s)).length) (h : Sp w3 W w3.heap.size p (sfx (bl s)) ∧ Hid (W.heap[w6.heap.size]? = some (.stringIter s (pos + dw t)))) => (byte_any W w3.heap.size p (sfx (bl s)) h.1.1 (by omega) (j : Nat)).mono (R' := fun e w' => e = .returned (.int .i64 (off (sfx (bl s)) j : Nat)) ∧ Sp w3 w' w3.heap.size p (sfx (bl s)) ∧ Hid (w'.heap[w6.heap.size]? = some (.stringIter s (pos + dw t)))) (fun e w' ⟨he, hb⟩ => ⟨by rw [he]; congr 3; congr 1; unfold clampN; omega, stp W w' h hb⟩)
      rcases hl3 with h0 | ⟨ad, rfl, hal, hac⟩
      · exfalso
        rw [h0] at gp
        simp at gp
      rcases hr3 with h0 | ⟨bd, hbd, hbl2, hbc⟩
      · exfalso
        rw [h0] at gr
        simp at gr
      cases hbd
      have la : ∀ W, Sp w3 W w3.heap.size p (sfx (bl s)) → W.cell? (ad.add k) = some (.int .i32 (pt t : Nat)) := fun W h => (h.2.cell (p := ad.add k) (by rw [C.add_block]; exact hal)).trans (hac k _ gp)
      have lb : ∀ W, Sp w3 W w3.heap.size p (sfx (bl s)) → W.cell? ⟨w1.heap.size, k, none⟩ = some (.int .i32 (dc t : Nat)) := fun W h => by
        have ea : (⟨w1.heap.size, 0, none⟩ : Addr).add k = ⟨w1.heap.size, k, none⟩ := by unfold Addr.add; split <;> simp_all
        rw [← ea]
        exact (h.2.cell (p := (⟨w1.heap.size, 0, none⟩ : Addr).add k) (by rw [C.add_block]; exact hbl2)).trans (hbc k _ gr)
      have cBk := fun W => cB W k (by omega)
      have cBk1 := fun W => cB W (k + 1) (by omega)
      rw [hpos] at cBk
      rw [hs1] at cBk1
      obtain ⟨x, hx⟩ : ∃ x, pt t = x := ⟨_, rfl⟩
      obtain ⟨c, hc⟩ : ∃ c, dc t = c := ⟨_, rfl⟩
      obtain ⟨d, hdd⟩ : ∃ d, dw t = d := ⟨_, rfl⟩
      rw [hx] at cT cNx la
      rw [hc] at hnx cT lb
      rw [hdd] at hnx cT cNx cBk cBk1 hS0 hSt hs1 hw1
      have Hs1 := Lib.hid hs1
      have hpd : pos + d ≤ 1048576 := by omega
      have hsub1 : ((d : Int) != (pos : Int) + d - pos) = false := by rw [bne_eq_false_iff_eq]; omega
      have hsub2 : ((d : Int) == (pos : Int) + d - pos) = true := by rw [beq_iff_eq]; omega
      clear hx hc hdd gp gr et hne ht hd hac hbc hnp Hit2 hit stp cB hs1
      go_wp2_with fail
      refine (cT _ ⟨hS0, hSt⟩).mono ?_
      rintro e w7 ⟨rfl, hS7⟩
      go_wp2_with fail
      refine (cNx _ hS7).mono ?_
      rintro e w8 ⟨rfl, hS8⟩
      have la8 := la _ hS8.1
      have ltI : (k : Int) < m1 := by omega
      go_wp2_with fail
      refine (cBk1 _ hS8).mono ?_
      rintro e w9 ⟨rfl, hS9⟩
      go_wp2_with fail
      refine (cBk _ hS9).mono ?_
      rintro e w10 ⟨rfl, hS10⟩
      have lb10 := lb _ hS10.1
      go_wp2
      go_roundw
      case rel => exact ⟨k + 1, by go_num, by omega, by rw [Hs1.out]; exact hS10.2.out, hS10.1⟩
      case measure => simp [intOf]; omega
    · have hke : k = (sfx (bl s)).length := by omega
      have hend : ¬ off (sfx (bl s)) k < s.size := by rw [hke, off_total, hbl]; omega
      have hnx : ∀ ty, (Instr.next (.pointer (some ⟨w6.heap.size, 0, none⟩)) true ty).run Tryd.prog wr = _ := fun ty => Lib.run_next_end_at wr w6.heap.size s _ ty hit hend
      have hkI : ((k : Int) == (m1 : Int)) = true := by rw [beq_iff_eq]; omega
      have hbr := hb13.trans (hSr.2.mono hb13.size)
      have hEr : HE wr := hE.below hbr (Nat.le_refl _)
      clear hke hend hit hle cX cM cU cN' cN cO hrl hT hT2 hT3
      go_wp2_with fail
      refine (works_any _ hEr).mono ?_
      rintro e w8 ⟨rfl, hb8⟩
      go_wp2
      go_ret
      exact ⟨rfl, hbr.trans (hb8.mono hbr.size)⟩
end Go.Proofs.YtbkimhbpcmbflaaDoor.C
