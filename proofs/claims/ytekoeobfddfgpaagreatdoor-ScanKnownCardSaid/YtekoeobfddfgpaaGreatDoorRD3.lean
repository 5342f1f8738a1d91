/-
  Of this seat's texts what the claim wants (printed by a program): D3.
-/
import Derived.Test.YtekoeobfddfgpaaGreatDoorRD2
import Derived.Lib.ConvBytes
set_option linter.unusedVariables false
set_option linter.unusedSimpArgs false
namespace Go.Proofs.YtekoeobfddfgpaaGreatDoor.C
open Go Go.RowKit Go.Shelf Go.Proofs.YtekoeobfddfgpaaGreatDoor.M Go.Proofs.YtekoeobfddfgpaaGreatDoor.Z
def DI (m : Nat) (l : List UInt8) (n v : Nat) : Prop := (digs m l 0).1 = (digs (m - n) (l.drop n) v).1 ∧ (digs m l 0).2 = n + (digs (m - n) (l.drop n) v).2 ∧ n ≤ m ∧ n ≤ l.length ∧ v < 16 ^ n
theorem DI.next {m : Nat} {l : List UInt8} {n v d : Nat} (h : DI m l n v) (hn : n < l.length) (hm : n < m) (hd : hexv l[n] = some d) : DI m l (n + 1) (16 * v + d) ∧ d < 16 := by
  obtain ⟨h1, h2, h3, h4, h5⟩ := h
  rw [drop_at hn, show m - n = (m - (n + 1)) + 1 by omega] at h1 h2
  simp only [digs, hd] at h1 h2
  have hlt : d < 16 := by
    unfold hexv at hd
    split at hd
    · injection hd with hd; omega
    · split at hd
      · injection hd with hd; omega
      · split at hd
        · injection hd with hd; omega
        · cases hd
  refine ⟨⟨h1, by omega, by omega, by omega, ?_⟩, hlt⟩
  rw [Nat.pow_succ]; omega
theorem DI.stop {m : Nat} {l : List UInt8} {n v : Nat} (h : DI m l n v) (hn : n < l.length) (hm : n < m) (hd : hexv l[n] = none) : digs m l 0 = (v, n) := by
  obtain ⟨h1, h2, _⟩ := h
  rw [drop_at hn, show m - n = (m - (n + 1)) + 1 by omega] at h1 h2
  simp only [digs, hd] at h1 h2
  exact Prod.ext h1 (by simpa using h2)
theorem DI.fin {m : Nat} {l : List UInt8} {n v : Nat} (h : DI m l n v) (hn : l.length ≤ n ∨ m ≤ n) : digs m l 0 = (v, n) := by
  obtain ⟨h1, h2, h3, h4, _⟩ := h
  have : digs (m - n) (l.drop n) v = (v, 0) := by
    rcases hn with hn | hn
    · rw [List.drop_eq_nil_of_le hn]
      cases m - n <;> rfl
    · rw [show m - n = 0 by omega]; rfl
  rw [this] at h1 h2
  exact Prod.ext h1 (by simpa using h2)
theorem DI.v_lt {m : Nat} {l : List UInt8} {n v : Nat} (h : DI m l n v) (hm : m ≤ 6) : v < 16777216 := by
  have h5 := h.2.2.2.2
  have h3 := h.2.2.1
  have : 16 ^ n ≤ 16 ^ 6 := Nat.pow_le_pow_right (by decide) (by omega)
  have e : (16 : Nat) ^ 6 = 16777216 := by decide
  omega
set_option maxHeartbeats 2000000 in
set_option maxRecDepth 100000 in
theorem digits_any (s : ByteArray) (m : Nat) (hm : m ≤ 6) (w : World) (hsz : s.size ≤ 140737488351232) :
    Calls Tryz.prog 107 #[.string s, .int .i64 (m : Nat)] w fun e w' => e = .returned (.tuple #[.int .i32 ((digs m (bl s) 0).1 : Nat), .int .i64 ((digs m (bl s) 0).2 : Nat)]) ∧ w = w' := by
  have Hl := Lib.hid (bl_len s)
  have hq0 : DI m (bl s) 0 0 := ⟨rfl, by simp, Nat.zero_le _, Nat.zero_le _, by decide⟩
  have Hq0 := Lib.hid hq0
  obtain ⟨A, hA⟩ : ∃ A, digs m (bl s) 0 = A := ⟨_, rfl⟩
  rw [hA]
  have HA := Lib.hid hA
  clear hA hq0
  go_enter Tryz.func107, Tryz.ntmps107
  go_wp2
  go_loop [6, 7] (fun v n => ∃ k u : Nat, n = .int .i64 k ∧ v = .int .i32 u ∧ k ≤ s.size ∧ k ≤ m ∧ u < 16777216 ∧ Hid (DI m (bl s) k u)) (fun _ n => s.size - (intOf n).toNat)
  case atStart => exact ⟨0, 0, rfl, rfl, Nat.zero_le _, Nat.zero_le _, by decide, Hq0⟩
  case round =>
    obtain ⟨k, u, rfl, rfl, hk, hkm, hu, HQ⟩ := hrel
    have hl := Hl.out
    by_cases hlt : k < s.size
    · by_cases hlm : k < m
      · have hg := bl_get hlt
        have hkl : k < (bl s).length := by omega
        obtain ⟨c, hc⟩ : ∃ c, (s[k]'hlt).toNat = c := ⟨_, rfl⟩
        have hlmI : (k : Int) < (m : Int) := by omega
        have hcl : c < 256 := by rw [← hc]; exact u8_lt _
        cases hx : hexv (s[k]'hlt) with
        | none =>
          have hq := HQ.out.stop hkl hlm (by rw [hg]; exact hx)
          have HA2 : Hid (A = (u, k)) := Lib.hid (by rw [← HA.out]; exact hq)
          unfold hexv at hx
          rw [hc] at hx
          have n1 : ¬ (48 ≤ c ∧ c ≤ 57) := fun h => by rw [if_pos h] at hx; cases hx
          rw [if_neg n1] at hx
          have n2 : ¬ (97 ≤ c ∧ c ≤ 102) := fun h => by rw [if_pos h] at hx; cases hx
          rw [if_neg n2] at hx
          have n3 : ¬ (65 ≤ c ∧ c ≤ 70) := fun h => by rw [if_pos h] at hx; cases hx
          have hcl2 : (c : Int) < 256 := by omega
          clear hq hx hl hkl hg
          rcases (by omega : c < 48 ∨ (57 < c ∧ c < 65) ∨ (70 < c ∧ c < 97) ∨ 102 < c) with h | h | h | h
          · have a1 : (c : Int) < 48 := by omega
            have a2 : (c : Int) < 65 := by omega
            have a3 : (c : Int) < 97 := by omega
            clear n1 n2 n3 h
            go_wp2
            go_ret2
            rw [HA2.out]
            exact ⟨rfl, rfl⟩
          · have a1 : (57 : Int) < (c : Int) := by omega
            have a2 : (c : Int) < 65 := by omega
            have a3 : (c : Int) < 97 := by omega
            have a4 : (48 : Int) ≤ (c : Int) := by omega
            clear n1 n2 n3 h
            go_wp2
            go_ret2
            rw [HA2.out]
            exact ⟨rfl, rfl⟩
          · have a1 : (57 : Int) < (c : Int) := by omega
            have a2 : (70 : Int) < (c : Int) := by omega
            have a3 : (c : Int) < 97 := by omega
            have a4 : (48 : Int) ≤ (c : Int) := by omega
            have a5 : (65 : Int) ≤ (c : Int) := by omega
            clear n1 n2 n3 h
            go_wp2
            go_ret2
            rw [HA2.out]
            exact ⟨rfl, rfl⟩
          · have a1 : (57 : Int) < (c : Int) := by omega
            have a2 : (70 : Int) < (c : Int) := by omega
            have a3 : (102 : Int) < (c : Int) := by omega
            have a4 : (48 : Int) ≤ (c : Int) := by omega
            have a5 : (65 : Int) ≤ (c : Int) := by omega
            have a6 : (97 : Int) ≤ (c : Int) := by omega
            clear n1 n2 n3 h
            go_wp2
            go_ret2
            rw [HA2.out]
            exact ⟨rfl, rfl⟩
        | some d =>
          obtain ⟨hq, hd⟩ := HQ.out.next hkl hlm (by rw [hg]; exact hx)
          have HQ2 := Lib.hid hq
          have hv := hq.v_lt hm
          unfold hexv at hx
          rw [hc] at hx
          by_cases n1 : 48 ≤ c ∧ c ≤ 57
          · rw [if_pos n1] at hx
            injection hx with hx
            have i1 : (48 : Int) ≤ (c : Int) := by omega
            have i2 : (c : Int) ≤ 57 := by omega
            have ev : (16 * (u : Int) + (c : Int) - 48) = ((16 * u + d : Nat) : Int) := by omega
            have Ev := Lib.hid ev
            clear hq hx hl hkl hg ev n1
            go_wp2
            go_round
            case rel => exact ⟨k + 1, _, by go_num, by rw [Ev.out], by omega, by omega, hv, HQ2⟩
            case measure => simp [intOf]; omega
          · rw [if_neg n1] at hx
            by_cases n2 : 97 ≤ c ∧ c ≤ 102
            · rw [if_pos n2] at hx
              injection hx with hx
              have i1 : (57 : Int) < (c : Int) := by omega
              have i2 : (c : Int) ≤ 102 := by omega
              have i3 : (97 : Int) ≤ (c : Int) := by omega
              have i4 : (48 : Int) ≤ (c : Int) := by omega
              have ev : (16 * (u : Int) + (c : Int) - 97 + 10) = ((16 * u + d : Nat) : Int) := by omega
              have Ev := Lib.hid ev
              clear hq hx hl hkl hg ev n1 n2
              go_wp2
              go_round
              case rel => exact ⟨k + 1, _, by go_num, by rw [Ev.out], by omega, by omega, hv, HQ2⟩
              case measure => simp [intOf]; omega
            · rw [if_neg n2] at hx
              by_cases n3 : 65 ≤ c ∧ c ≤ 70
              · rw [if_pos n3] at hx
                injection hx with hx
                have i1 : (57 : Int) < (c : Int) := by omega
                have i2 : (c : Int) ≤ 70 := by omega
                have i3 : (65 : Int) ≤ (c : Int) := by omega
                have i4 : (48 : Int) ≤ (c : Int) := by omega
                have i5 : (c : Int) < 97 := by omega
                have ev : (16 * (u : Int) + (c : Int) - 65 + 10) = ((16 * u + d : Nat) : Int) := by omega
                have Ev := Lib.hid ev
                clear hq hx hl hkl hg ev n1 n2 n3
                go_wp2
                go_round
                case rel => exact ⟨k + 1, _, by go_num, by rw [Ev.out], by omega, by omega, hv, HQ2⟩
                case measure => simp [intOf]; omega
              · rw [if_neg n3] at hx; cases hx
      · have hq := HQ.out.fin (.inr (by omega))
        have HA2 : Hid (A = (u, k)) := Lib.hid (by rw [← HA.out]; exact hq)
        clear hq hl
        go_wp2
        go_ret2
        rw [HA2.out]
        exact ⟨rfl, rfl⟩
    · have hq := HQ.out.fin (.inl (by omega))
      have HA2 : Hid (A = (u, k)) := Lib.hid (by rw [← HA.out]; exact hq)
      clear hq hl
      go_wp2
      go_ret2
      rw [HA2.out]
      exact ⟨rfl, rfl⟩
end Go.Proofs.YtekoeobfddfgpaaGreatDoor.C
