/-
  Of this seat's texts what the claim wants (printed by a program): D2.
-/
import Derived.Test.YtekoeobfddfgpaaGreatDoorRD1
set_option linter.unusedVariables false
set_option linter.unusedSimpArgs false
namespace Go.Proofs.YtekoeobfddfgpaaGreatDoor.C
open Go Go.RowKit Go.Shelf Go.Proofs.YtekoeobfddfgpaaGreatDoor.M Go.Proofs.YtekoeobfddfgpaaGreatDoor.Z
structure BI (w : World) (out : List UInt8) (wr : World) : Prop where
  bd : ∃ p v, Bd wr w.heap.size w.heap.size p v out ∧ (∀ g, v.ownBlock = some g → w.heap.size ≤ g)
  bel : Below w.heap.size w wr
theorem BI.new (w : World) : BI w [] (w.alloc (.cells #[.pointer none, .slice none 0 0] 90)) :=
  ⟨⟨_, _, Bd.new w, by simp [Value.ownBlock]⟩, (Below.refl _ _).alloc (Nat.le_refl _) _⟩
theorem BI.size {w wr : World} {out : List UInt8} (h : BI w out wr) : w.heap.size + 1 ≤ wr.heap.size := by
  obtain ⟨p, v, hb, _⟩ := h.bd
  exact lt_of_obj hb.blk
theorem BI.byte {w wr : World} {out : List UInt8} (h : BI w out wr) (c : UInt8) (hlen : out.length + 1 ≤ 140737488355328) :
    Calls Tryz.prog 106 #[.pointer (some ⟨w.heap.size, 0, none⟩), .int .u8 (c.toNat : Nat)] wr fun e w' => e = .returned .nilIface ∧ BI w (out ++ [c]) w' := by
  obtain ⟨p, v, hb, hv⟩ := h.bd
  refine (writebyte_any hb c hlen h.bel.size).mono ?_
  rintro e w' ⟨rfl, v', hb', hk, hv'⟩
  exact ⟨rfl, ⟨_, _, hb', fun g hg => (hv' g hg).elim (hv g) (fun e => by have := h.bel.size; omega)⟩, h.bel.trans (hk.below h.bel.size (fun k z => z.elim (fun e => by omega) (hv k)))⟩
theorem BI.str {w wr : World} {out : List UInt8} (h : BI w out wr) (s : ByteArray) (hlen : out.length + s.size ≤ 140737488355328) :
    Calls Tryz.prog 57 #[.pointer (some ⟨w.heap.size, 0, none⟩), .string s] wr fun e w' => e = .returned (.tuple #[.int .i64 s.size, .nilIface]) ∧ BI w (out ++ bl s) w' := by
  obtain ⟨p, v, hb, hv⟩ := h.bd
  refine (writestr_any hb s hlen h.bel.size).mono ?_
  rintro e w' ⟨rfl, v', hb', hk, hv'⟩
  exact ⟨rfl, ⟨_, _, hb', fun g hg => (hv' g hg).elim (hv g) (fun e => by have := h.bel.size; omega)⟩, h.bel.trans (hk.below h.bel.size (fun k z => z.elim (fun e => by omega) (hv k)))⟩
theorem BI.fin {w wr : World} {out : List UInt8} (h : BI w out wr) :
    Calls Tryz.prog 59 #[.pointer (some ⟨w.heap.size, 0, none⟩)] wr fun e w' => e = .returned (.string (ba out)) ∧ Below w.heap.size w w' := by
  obtain ⟨p, v, hb, hv⟩ := h.bd
  exact (bstr_any hb h.bel.size).mono fun e w' ⟨h1, h2⟩ => ⟨h1, h.bel.trans h2⟩
theorem BI.drew {w wr : World} {out : List UInt8} (h : BI w out wr) {Y : Nat → Prop} {w' : World} (hk : Keeps Y wr w') (hy : ∀ k, ¬ Y k) : BI w out w' := by
  obtain ⟨p, v, hb, hv⟩ := h.bd
  exact ⟨⟨_, _, hb.keeps hk (hy _) (fun g _ => hy g), hv⟩, h.bel.trans (hk.below h.bel.size (fun k z => absurd z (hy k)))⟩
def QI (r : List UInt8) (l : List UInt8) (k : Nat) (out : List UInt8) : Prop := quo r = (quo (l.drop k)).map (fun x => (out ++ x.1, x.2 + (k - 1))) ∧ out.length + 1 ≤ k
theorem QI.other {r l out : List UInt8} {k : Nat} (h : QI r l k out) (hk : k < l.length) (hc : l[k] ≠ 39) : QI r l (k + 1) (out ++ [l[k]]) := by
  obtain ⟨h1, h2⟩ := h
  rw [drop_at hk, quo_other hc, Option.map_map] at h1
  refine ⟨?_, by simp; omega⟩
  rw [h1]
  congr 1
  funext x
  simp only [Function.comp_apply, Prod.mk.injEq]
  exact ⟨by simp, by omega⟩
theorem QI.two {r l out : List UInt8} {k : Nat} (h : QI r l k out) (hk : k + 1 < l.length) (hc : l[k] = 39) (hd : l[k + 1] = 39) : QI r l (k + 2) (out ++ [l[k + 1]]) := by
  obtain ⟨h1, h2⟩ := h
  rw [drop_at (by omega), drop_at hk, hc, hd, quo_two, Option.map_map] at h1
  refine ⟨?_, by simp; omega⟩
  rw [h1, hd]
  congr 1
  funext x
  simp only [Function.comp_apply, Prod.mk.injEq]
  exact ⟨by simp, by omega⟩
theorem QI.close {r l out : List UInt8} {k : Nat} (h : QI r l k out) (hk : k < l.length) (hc : l[k] = 39) (hd : ∀ h : k + 1 < l.length, l[k + 1] ≠ 39) : quo r = some (out, k) := by
  obtain ⟨h1, h2⟩ := h
  rw [drop_at hk, hc, quo_close, Option.map_some] at h1
  · rw [h1]; simp; omega
  · intro d r' e
    have : l[k + 1]? = some d := by
      have := congrArg (·[0]?) e
      simpa using this
    obtain ⟨h3, h4⟩ := List.getElem?_eq_some_iff.1 this
    rw [← h4]; exact hd h3
theorem QI.none {r l out : List UInt8} {k : Nat} (h : QI r l k out) (hk : l.length ≤ k) : quo r = none := by
  obtain ⟨h1, h2⟩ := h
  rw [quo_drop_end hk] at h1
  exact h1
def quoA (r : List UInt8) : List UInt8 × Nat × Nat := match quo r with
  | some x => (x.1, x.2 + 1, 0)
  | none => ([], 0, 10)
set_option maxHeartbeats 2000000 in
set_option maxRecDepth 100000 in
theorem quoted_any (s : ByteArray) (r : List UInt8) (hs : bl s = 39 :: r) (w : World) (hsz : s.size ≤ 140737488351232) :
    Calls Tryz.prog 97 #[.string s] w fun e w' => e = .returned (.tuple #[.string (ba (quoA r).1), .int .i64 ((quoA r).2.1 : Nat), .int .i64 ((quoA r).2.2 : Nat)]) ∧ Below w.heap.size w w' := by
  have hl := bl_len s
  have hs1 : 1 ≤ s.size := by rw [← hl, hs]; simp
  have hq0 : QI r (bl s) 1 [] := ⟨by rw [hs]; simp, by simp⟩
  have Hq0 := Lib.hid hq0
  have Hl := Lib.hid hl
  obtain ⟨A, hA⟩ : ∃ A, quoA r = A := ⟨_, rfl⟩
  rw [hA]
  have HA := Lib.hid hA
  have hB0 := BI.new w
  clear hs hl hq0 hA
  go_enter Tryz.func97, Tryz.ntmps97
  go_wp2
  go_loopw [6] (fun n wr => ∃ (k : Nat) (out : List UInt8), n = .int .i64 k ∧ k ≤ s.size ∧ Hid (QI r (bl s) k out) ∧ BI w out wr) (fun n _ => s.size - (intOf n).toNat)
  case atStart => exact ⟨1, [], rfl, hs1, Hq0, hB0⟩
  case round =>
    obtain ⟨k, out, rfl, hk, HQ, hB⟩ := hrel
    have hl := Hl.out
    have hlo : out.length + 1 ≤ k := HQ.out.2
    by_cases hlt : k < s.size
    · have hg := bl_get hlt
      have hkl : k < (bl s).length := by omega
      by_cases hc : (s[k]'hlt) = 39
      · have t1 : ((((s[k]'hlt).toNat : Nat) : Int) == 39) = true := by rw [hc]; rfl
        by_cases hd : ∀ h : k + 1 < s.size, s[k + 1]'h ≠ 39
        · have hq : quo r = some (out, k) := HQ.out.close hkl (by rw [hg]; exact hc) (fun h => by rw [bl_get (by omega)]; exact hd (by omega))
          have HA2 : Hid (A = (out, k + 1, 0)) := Lib.hid (by rw [← HA.out]; simp [quoA, hq])
          have cF := hB.fin
          by_cases he : k + 1 = s.size
          · have t2 : (((k : Int) + 1) == (s.size : Int)) = true := by simp; omega
            clear hq hd hc hg hkl HQ hB hl
            go_wp2_with fail
            refine cF.mono ?_
            rintro e w' ⟨rfl, hb⟩
            go_wp2_with fail
            go_ret3
            rw [HA2.out]
            exact ⟨rfl, hb⟩
          · have h1 : k + 1 < s.size := by omega
            have h1i : (k : Int) + 1 < (s.size : Int) := by omega
            have t2 : (((k : Int) + 1) == (s.size : Int)) = false := by simp; omega
            have hd1 := hd h1
            have t3 : ((((s[k + 1]'h1).toNat : Nat) : Int) != 39) = true := by
              simp only [bne_iff_ne, ne_eq]
              intro e
              exact hd1 (UInt8.toNat_inj.1 (by show (s[k + 1]'h1).toNat = 39; omega))
            clear hq hd hc hg hkl HQ hB hl hd1 he
            go_wp2_with fail
            refine cF.mono ?_
            rintro e w' ⟨rfl, hb⟩
            go_wp2_with fail
            go_ret3
            rw [HA2.out]
            exact ⟨rfl, hb⟩
        · obtain ⟨h1, hd1⟩ : ∃ h : k + 1 < s.size, s[k + 1]'h = 39 := by
            rcases Nat.lt_or_ge (k + 1) s.size with h | h
            · exact ⟨h, Decidable.byContradiction fun e => hd (fun _ => e)⟩
            · exact absurd (fun h' => absurd h' (Nat.not_lt.2 h)) hd
          clear hd
          have h1i : (k : Int) + 1 < (s.size : Int) := by omega
          have t2 : (((k : Int) + 1) == (s.size : Int)) = false := by simp; omega
          have t3 : ((((s[k + 1]'h1).toNat : Nat) : Int) != 39) = false := by rw [hd1]; rfl
          have hq := HQ.out.two (by omega) (by rw [hg]; exact hc) (by rw [bl_get h1]; exact hd1)
          rw [bl_get h1] at hq
          have HQ2 := Lib.hid hq
          have cW := hB.byte (s[k + 1]'h1) (by omega)
          clear hq hc hg hkl HQ hB hl hd1
          go_wp2_with fail
          refine cW.mono ?_
          rintro e w' ⟨rfl, hb⟩
          clear cW
          go_wp2_with fail
          go_roundw
          case rel => exact ⟨k + 2, _, by go_num, by omega, HQ2, hb⟩
          case measure => simp [intOf]; omega
      · have t1 : ((((s[k]'hlt).toNat : Nat) : Int) == 39) = false := by
          simp only [beq_eq_false_iff_ne, ne_eq]
          intro e
          exact hc (UInt8.toNat_inj.1 (by show (s[k]'hlt).toNat = 39; omega))
        have hq := HQ.out.other hkl (by rw [hg]; exact hc)
        rw [hg] at hq
        have HQ2 := Lib.hid hq
        have cW := hB.byte (s[k]'hlt) (by omega)
        clear hq hc hg hkl HQ hB hl
        go_wp2_with fail
        refine cW.mono ?_
        rintro e w' ⟨rfl, hb⟩
        clear cW
        go_wp2_with fail
        go_roundw
        case rel => exact ⟨k + 1, _, by go_num, by omega, HQ2, hb⟩
        case measure => simp [intOf]; omega
    · have hq := HQ.out.none (by omega)
      have HA2 : Hid (A = ([], 0, 10)) := Lib.hid (by rw [← HA.out]; simp [quoA, hq])
      have hb := hB.bel
      clear hq HQ hB hl
      go_wp2_with fail
      go_ret3
      rw [HA2.out]
      exact ⟨rfl, hb⟩
end Go.Proofs.YtekoeobfddfgpaaGreatDoor.C
