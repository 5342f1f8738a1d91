/-
  GA, GB, AP, K14, K15, P1, P2, P3, P4: what is wanted of these, joined to one text.
-/
import Derived.Test.YtbkimhbpcmbflaaDoorShelf
import Derived.Test.YtbkimhbpcmbflaaDoorMath1
import Derived.WalkKit
import Derived.WalkSpells
import Derived.WalkLawsBesides
import Derived.BigCall
import Derived.Lib.Hide
import Derived.Lib.IndexBytes
import Derived.Laws.IdiomStrings
import Derived.Lib.OthersKept
import Derived.Lib.AppendStr
import Derived.Laws.BytesArg
import Derived.LaidEql
import Derived.Stop.Asserts
import Derived.RowKitTokens
import Derived.KernelRfl
import Derived.Laws.Tables
import Derived.Laws.Rows
import Derived.Deep.RegionHeld3
import Derived.Test.YtbkimhbpcmbflaaDoorPAllx
import Derived.Laws.Cover4
import Derived.Deep.AppendLies
import Derived.Deep.RegionLaw
import Derived.Deep.QuietTactic
import Derived.BigQuiet
import Derived.StillTailTactics
import Derived.OwnWalk
set_option linter.unusedVariables false
set_option linter.unusedSimpArgs false
namespace Go.Proofs.YtbkimhbpcmbflaaDoor.C
open Go Go.RowKit Go.Proofs.YtbkimhbpcmbflaaDoor.M
abbrev bl (s : ByteArray) : List UInt8 := s.data.toList
theorem bl_len (s : ByteArray) : (bl s).length = s.size := (Lib.size_eq s).symm
theorem bl_extract (s : ByteArray) (p : Nat) : bl (s.extract p s.size) = (bl s).drop p := Lib.extract_to_end s p
theorem bl_nonempty {s : ByteArray} {p : Nat} (h : p < s.size) : (bl s).drop p ≠ [] := ne_nil_of_lt (by rw [bl_len]; exact h)
theorem decodeGo_eq {s : ByteArray} {p : Nat} (h : p < s.size) : Lib.decodeGo (s.extract p s.size) = (dc ((bl s).drop p), dw ((bl s).drop p)) := by
  unfold Lib.decodeGo
  have hz : (s.extract p s.size).size = s.size - p := by simp
  rw [if_neg (by omega)]
  have := Lib.decodeL_drop (s.extract p s.size) 0
  rw [← this]
  show Lib.decodeL (List.drop 0 (bl (s.extract p s.size))) = _
  rw [bl_extract]
  rfl
theorem byte_at {s : ByteArray} {p : Nat} (h : p < s.size) : (s[p]'h).toNat = b0 ((bl s).drop p) := by
  unfold b0 bl
  simp only [List.getD_eq_getElem?_getD, List.getElem?_drop, Nat.add_zero]
  have hp : p < s.data.toList.length := by have := Lib.size_eq s; omega
  rw [List.getElem?_eq_getElem hp]
  rfl
/-- unicode/utf8.DecodeRuneInString behind a cut. -/
theorem decode_rest (s : ByteArray) (p : Nat) (w : World) (hT : Lib.Utf8Tabs 0 1 w) (h : p < s.size) :
    Calls Tryd.prog 96 #[.string (s.extract p s.size)] w fun e w' => e = .returned (.tuple #[.int .i32 (dc ((bl s).drop p) : Nat), .int .i64 (dw ((bl s).drop p) : Nat)]) ∧ Below w.heap.size w w' := by
  have := Tryd.utf8_DecodeRuneInString (s.extract p s.size) w hT
  rw [decodeGo_eq h] at this
  exact this
/-- what points.Next answers -/
def nextP (l : List UInt8) (at_ : Int) : Int × Int := if at_ < 0 ∨ (l.length : Int) ≤ at_ then (0, 0) else ((pt (l.drop at_.toNat) : Nat), (dw (l.drop at_.toNat) : Nat))
set_option maxHeartbeats 1000000 in
theorem next_in (s : ByteArray) (p : Nat) (w : World) (hT : Lib.Utf8Tabs 0 1 w) (h : p < s.size) (hs : s.size ≤ 140737488351232) :
    Calls Tryd.prog 49 #[.string s, .int .i64 (p : Nat)] w fun e w' => e = .returned (.tuple #[.int .i32 (pt ((bl s).drop p) : Nat), .int .i64 (dw ((bl s).drop p) : Nat)]) ∧ Below w.heap.size w w' := by
  have hne := bl_nonempty h
  have hf := d_facts hne
  have hb := byte_at h
  have h1 : (p : Int) < s.size := by omega
  have cD := decode_rest s p
  cases hi : ill ((bl s).drop p) with
  | true =>
    have e : dc ((bl s).drop p) = 65533 ∧ dw ((bl s).drop p) = 1 := by simpa [ill] using hi
    have hb2 := ill_b0 hne hi
    have hp : pt ((bl s).drop p) = 1114112 + b0 ((bl s).drop p) := by simp [pt, hi]
    rw [hp, e.2]
    rw [e.1, e.2] at cD
    rw [← hb] at hb2 ⊢
    clear e hp hi hb hf hne
    go_enter Tryd.func49, Tryd.ntmps49
    go_wp2_with (go_at_call 96; refine (cD _ hT h).mono ?_; rintro e w' ⟨rfl, hb⟩)
    go_ret2
    exact ⟨rfl, hb⟩
  | false =>
    have hd : ¬ (dc ((bl s).drop p) = 65533 ∧ dw ((bl s).drop p) = 1) := by simpa [ill] using hi
    have hp : pt ((bl s).drop p) = dc ((bl s).drop p) := by simp [pt, hi]
    rw [hp]
    generalize dc ((bl s).drop p) = c at *
    generalize dw ((bl s).drop p) = k at *
    clear hp hi hb hne
    by_cases h2 : c = 65533
    · have h3 : ((k : Int) == 1) = false := beq_eq_false_iff_ne.2 (by omega)
      have h4 : ((c : Int) == 65533) = true := beq_iff_eq.2 (by omega)
      clear hf hd h2
      go_enter Tryd.func49, Tryd.ntmps49
      go_wp2_with (go_at_call 96; refine (cD _ hT h).mono ?_; rintro e w' ⟨rfl, hb⟩)
      go_ret2
      exact ⟨rfl, hb⟩
    · have h4 : ((c : Int) == 65533) = false := beq_eq_false_iff_ne.2 (by omega)
      clear hf hd h2
      go_enter Tryd.func49, Tryd.ntmps49
      go_wp2_with (go_at_call 96; refine (cD _ hT h).mono ?_; rintro e w' ⟨rfl, hb⟩)
      go_ret2
      exact ⟨rfl, hb⟩
set_option maxHeartbeats 1000000 in
theorem next_out (s : ByteArray) (a : Int) (w : World) (h : a < 0 ∨ (s.size : Int) ≤ a) :
    Calls Tryd.prog 49 #[.string s, .int .i64 a] w fun e w' => e = .returned (.tuple #[.int .i32 0, .int .i64 0]) ∧ Below w.heap.size w w' := by
  by_cases h1 : a < 0
  · go_enter Tryd.func49, Tryd.ntmps49
    go_wp2
    go_ret2
    exact ⟨rfl, Below.refl _ _⟩
  · have h2 : (s.size : Int) ≤ a := by omega
    go_enter Tryd.func49, Tryd.ntmps49
    go_wp2
    go_ret2
    exact ⟨rfl, Below.refl _ _⟩
theorem next_any (s : ByteArray) (a : Int) (w : World) (hT : Lib.Utf8Tabs 0 1 w) (hs : s.size ≤ 140737488351232) :
    Calls Tryd.prog 49 #[.string s, .int .i64 a] w fun e w' => e = .returned (.tuple #[.int .i32 (nextP (bl s) a).1, .int .i64 (nextP (bl s) a).2]) ∧ Below w.heap.size w w' := by
  unfold nextP
  rw [bl_len]
  by_cases h : a < 0 ∨ (s.size : Int) ≤ a
  · rw [if_pos h]
    exact next_out s a w h
  · rw [if_neg h]
    obtain ⟨p, rfl⟩ : ∃ p : Nat, a = p := ⟨a.toNat, by omega⟩
    exact next_in s p w hT (by omega) hs
end Go.Proofs.YtbkimhbpcmbflaaDoor.C
set_option linter.unusedVariables false
set_option linter.unusedSimpArgs false
namespace Go.Proofs.YtbkimhbpcmbflaaDoor.C
open Go Go.RowKit Go.Proofs.YtbkimhbpcmbflaaDoor.M
/-- a row of whole numbers, of the call's own -/
def Row (w : World) (base : Nat) (e : TypeId) (k : IntKind) (v : Value) (xs : List Int) : Prop := w.ownsRow base e 1 v xs.length (xs.map (Value.int k))
theorem fffd_prefix {t : List UInt8} (h : t ≠ []) (hc : dc t = 65533) : Lib.hasPrefix t [239, 191, 189] = !(ill t) := by
  have e3 : enc 65533 = [239, 191, 189] := by decide
  cases hi : ill t with
  | false =>
    have ht := take_enc h hi
    have hw : dw t = 3 := by
      have := (d_facts h).2.2.2.2.2.2 hc
      have h2 : ¬ (dc t = 65533 ∧ dw t = 1) := by simpa [ill] using hi
      omega
    rw [hc, e3, hw] at ht
    show List.isPrefixOf [239, 191, 189] t = true
    rw [List.isPrefixOf_iff_prefix]
    exact ⟨t.drop 3, by rw [← ht]; exact List.take_append_drop 3 t⟩
  | true =>
    show List.isPrefixOf [239, 191, 189] t = false
    rw [Bool.eq_false_iff]
    intro hp
    rw [List.isPrefixOf_iff_prefix] at hp
    obtain ⟨r, hr⟩ := hp
    have := dw_enc (c := 65533) (by unfold okc; omega) r
    rw [e3, hr] at this
    have h2 : dc t = 65533 ∧ dw t = 1 := by simpa [ill] using hi
    simp at this
    omega
theorem cell_modify {w : World} {B : Nat} {cur : Array Value} {e : TypeId} (h : w.heap[B]? = some (.cells cur e (0, 0))) (j : Nat) (u : Value) :
    (w.setCell ⟨B, j, none⟩ u).heap[B]? = some (.cells (cur.setIfInBounds j u) e (0, 0)) := by
  simp [World.setCell, Array.getElem?_modify, h]
theorem frozen_cells {w : World} {B : Nat} {cur : Array Value} {e : TypeId} (h : w.heap[B]? = some (.cells cur e (0, 0))) (j : Nat) : w.frozen? ⟨B, j, none⟩ = false := by
  simp [World.frozen?, h]
theorem w32 {x : Int} (h0 : -2147483648 ≤ x) (h1 : x ≤ 2147483647) : wrap32 x = x := by unfold wrap32; omega
theorem w64 {x : Int} (h0 : -9223372036854775808 ≤ x) (h1 : x ≤ 9223372036854775807) : wrap64 x = x := by unfold wrap64; omega
/-- the cells while the loop goes on: what is done holds points, the rest numbers -/
def mixed (pre rest : List (List UInt8)) : List Int := (pre.map fun t => (pt t : Int)) ++ rest.map fun t => (dc t : Int)
theorem mixed_same {pre rest : List (List UInt8)} {t : List UInt8} (h : ill t = false) : mixed (pre ++ [t]) rest = mixed pre (t :: rest) := by
  simp [mixed, pt, h]
theorem mixed_set {pre rest : List (List UInt8)} {t : List UInt8} : mixed (pre ++ [t]) rest = (mixed pre (t :: rest)).set pre.length (pt t : Int) := by
  simp [mixed, List.set_append]
set_option maxHeartbeats 4000000 in
set_option maxRecDepth 1000000 in
theorem of_any (s : ByteArray) (w : World) (hs : s.size ≤ 140737488351232) (h46 : (sfx (bl s)).length ≤ 70368744177664) :
    Calls Tryd.prog 25 #[.string s] w fun e w' => ∃ v, e = .returned v ∧ Row w' w.heap.size 21 .i32 v (pts (bl s)) ∧ Below w.heap.size w w' := by
  have hsz : (Conv.runesFrom s s.size 0 #[]).size = (sfx (bl s)).length := conv_runes_size s
  have hli : (Conv.runesFrom s s.size 0 #[]).toList = (runes (bl s)).map (Value.int .i32) := conv_runes s
  have hle := sfx_len (bl s)
  have hbl := bl_len s
  have hcv := run_runes_of_string (P := Tryd.prog) w 9 22 21 s Tryd.underlying9 Tryd.underlying22 Tryd.underlying21 (by omega)
  obtain ⟨n, hn⟩ : ∃ n, (Conv.runesFrom s s.size 0 #[]).size = n := ⟨_, rfl⟩
  rw [hn] at hcv
  have hge := grownCap_ge w n 0 21
  have hn46 : n ≤ 70368744177664 := by omega
  have h9 : n ≤ maxLen := by unfold maxLen; omega
  clear h46
  have hlm := grownCap_le_maxLen w n 0 21 h9
  obtain ⟨cap, hcap⟩ : ∃ cap, grownCap w n 0 21 = cap := ⟨_, rfl⟩
  rw [hcap] at hcv hge hlm
  obtain ⟨cur, hcur⟩ : ∃ cur, Conv.runesFrom s s.size 0 #[] ++ Array.replicate (cap - n) (Value.int .i32 0) = cur := ⟨_, rfl⟩
  rw [hcur] at hcv
  have hcs : cur.size = cap := by rw [← hcur]; simp; omega
  have hct : cur.toList.take n = (mixed [] (sfx (bl s))).map (Value.int .i32) := by
    rw [← hcur]
    simp only [Array.toList_append, Array.toList_replicate]
    rw [List.take_append_of_le_length (by simp; omega), List.take_of_length_le (by simp; omega), hli]
    rfl
  have hns : n = (sfx (bl s)).length := by rw [← hn, hsz]
  have Hns := Lib.hid hns
  have Hcs := Lib.hid hcs
  have Hct := Lib.hid hct
  have Hbl := Lib.hid hbl
  clear hsz hli hcap hcur hn hns hcs hct hbl hle h9
  go_enter Tryd.func25, Tryd.ntmps25
  go_wp2
  go_loopw [4] (fun kv wr => ∃ (pos : Nat) (pre : List (List UInt8)) (cu : Array Value), kv = .int .i64 pre.length ∧ Hid (sfx (bl s) = pre ++ sfx ((bl s).drop pos)) ∧ wr.heap[w.heap.size + 1]? = some (.stringIter s pos) ∧
      wr.heap[w.heap.size]? = some (.cells cu 21 (0, 0)) ∧ Hid (cu.size = cap) ∧ Hid (cu.toList.take n = (mixed pre (sfx ((bl s).drop pos))).map (Value.int .i32)) ∧ Below w.heap.size w wr) (fun _ wr => s.size - wr.iterPos (w.heap.size + 1))
  case atStart =>
    refine ⟨0, [], cur, rfl, by simp [Hid], ?_, ?_, Hcs, by rw [List.drop_zero]; exact Hct, ?_⟩
    · simpa using World.iter_heap ((w.alloc (.cells cur 21)).drew) s 0
    · have h1 := heap_alloc_new w (.cells cur 21)
      exact (Below.heap_alloc ((w.alloc (.cells cur 21)).drew) (.stringIter s 0) w.heap.size (by simp)).trans h1
    · exact (((Below.refl _ w).alloc (Nat.le_refl _) _).drew).alloc (by simp) _
  case round =>
    obtain ⟨pos, pre, cu, rfl, hpre, hit, hblk, hcu, htk, hbw⟩ := hrel
    have hszw : w.heap.size + 1 < wr.heap.size := (Array.getElem?_eq_some_iff.1 hit).1
    by_cases hp : pos < s.size
    · obtain ⟨t, ht⟩ : ∃ t, (bl s).drop pos = t := ⟨_, rfl⟩
      have hne : t ≠ [] := by rw [← ht]; exact bl_nonempty hp
      have hd : Utf8.decode s pos = (dc t, dw t) := by rw [← ht]; exact (Lib.decodeL_drop s pos).symm
      have hb0 : (s[pos]'hp).toNat = b0 t := by rw [← ht]; exact byte_at hp
      have hnx : ∀ ty, (Instr.next (.pointer (some ⟨w.heap.size + 1, 0, none⟩)) true ty).run Tryd.prog wr = .ok (.tuple #[.bool true, .int .i64 pos, .int .i32 (dc t : Nat)]) (wr.iterAt (w.heap.size + 1) s (pos + dw t)) := fun ty => by
        have := Lib.run_next_any_at (P := Tryd.prog) wr (w.heap.size + 1) s pos ty hit hp
        rw [hd] at this
        exact this
      have hw1 := dw_pos hne
      have hw2 := dw_len hne
      have hdrop : (bl s).drop (pos + dw t) = t.drop (dw t) := by rw [← ht, List.drop_drop]
      have hsx : sfx ((bl s).drop pos) = t :: sfx ((bl s).drop (pos + dw t)) := by rw [ht, sfx_cons hne, hdrop]
      have hkn : pre.length < n := by
        have h1 := Hns.out
        have h2 := hpre.out
        rw [hsx] at h2
        rw [h1, h2]; simp
      have hpre2 : Hid (sfx (bl s) = (pre ++ [t]) ++ sfx ((bl s).drop (pos + dw t))) := by
        show sfx (bl s) = _
        rw [hpre.out, hsx]; simp
      have hcl : cu.size = cap := hcu.out
      have htk2 : Hid (cu.toList.take n = (mixed pre (t :: sfx ((bl s).drop (pos + dw t)))).map (Value.int .i32)) := by
        have := htk.out
        rw [hsx] at this
        exact this
      have hHP := Tryd.strings_HasPrefix (s.extract pos s.size) ⟨#[239, 191, 189]⟩ (wr.iterAt (w.heap.size + 1) s (pos + dw t))
      have hbx : bl (s.extract pos s.size) = t := by rw [bl_extract, ht]
      have hit2 := Lib.iterAt_heap wr (w.heap.size + 1) s pos (pos + dw t) hit
      have hblk2 : (wr.iterAt (w.heap.size + 1) s (pos + dw t)).heap[w.heap.size]? = some (.cells cu 21 (0, 0)) := (Lib.iterAt_other wr (w.heap.size + 1) w.heap.size s (pos + dw t) (by omega)).trans hblk
      have hbw2 : Below w.heap.size w (wr.iterAt (w.heap.size + 1) s (pos + dw t)) := Lib.below_iterAt hbw (by omega) s _
      have hp1 : (pos : Int) < s.size := by omega
      have hknI : (pre.length : Int) < n := by omega
      obtain ⟨old, hcell⟩ : ∃ old, (wr.iterAt (w.heap.size + 1) s (pos + dw t)).cell? ⟨w.heap.size, pre.length, none⟩ = some old := by
        rw [cell_of_row _ _ _ _ _ _ hblk2]
        exact ⟨cu[pre.length]'(by omega), Array.getElem?_eq_getElem _⟩
      have hfr := frozen_cells hblk2 pre.length
      have hm : s.size - (pos + dw t) < s.size - pos := by omega
      have hpl : pos + dw t ≤ s.size := by
        have h1 := Hbl.out
        have h2 := congrArg List.length ht
        simp at h2
        omega
      have Hhd := Lib.hid hd
      have Hb0 := Lib.hid hb0
      have Hhit := Lib.hid hit
      have Hblk := Lib.hid hblk
      have Hcl := Lib.hid hcl
      have Hht := Lib.hid ht
      have Hdr := Lib.hid hdrop
      have Hbx := Lib.hid hbx
      have Hsx := Lib.hid hsx
      have Hblk2 := Lib.hid hblk2
      have Hit2 := Lib.hid hit2
      cases hi : ill t with
      | true =>
        have e : dc t = 65533 := by
          have : dc t = 65533 ∧ dw t = 1 := by simpa [ill] using hi
          exact this.1
        have hpf : Lib.hasPrefix (s.extract pos s.size).data.toList (⟨#[239, 191, 189]⟩ : ByteArray).data.toList = false := by
          show Lib.hasPrefix (bl (s.extract pos s.size)) [239, 191, 189] = false
          rw [Hbx.out, fffd_prefix hne e, hi]; rfl
        rw [hpf] at hHP
        have hpt : pt t = 1114112 + b0 t := by simp [pt, hi]
        have Hpt := Lib.hid hpt
        have Hi := Lib.hid hi
        have e2 : ((dc t : Nat) : Int) = 65533 := by omega
        rw [e2] at hnx
        clear hd hb0 hit hblk hcl ht hdrop hbx hsx hblk2 hit2 hpf hpt hi e e2
        go_wp2_with (go_at_call 76; refine hHP.mono ?_; rintro e w' ⟨rfl, rfl⟩)
        go_roundw
        case rel =>
          have hpt' : ((1114112 + (s[pos]'hp).toNat : Nat) : Int) = (pt t : Nat) := by rw [Hpt.out, Hb0.out]
          refine ⟨pos + dw t, pre ++ [t], _, by simp, hpre2, ?_, cell_modify Hblk2.out _ _, ?_, ?_, hbw2.setCell (Nat.le_refl _) _⟩
          · rw [Below.heap_setCell _ _ _ _ (by simp)]
            exact Hit2.out
          · show _ = cap
            rw [Array.size_setIfInBounds]; exact Hcl.out
          · show List.take n (cu.setIfInBounds _ _).toList = _
            have hbt : (s[pos]'hp).toNat < 256 := (s[pos]'hp).toNat_lt
            rw [mixed_set, List.map_set, ← htk2.out, Array.toList_setIfInBounds, List.take_set, ← hpt', w32 (x := ((s[pos]'hp).toNat : Int)) (by omega) (by omega), w32 (by omega) (by omega)]
            simp
        case measure =>
          have h2 := fun u => (Below.heap_setCell (wr.iterAt (w.heap.size + 1) s (pos + dw t)) ⟨w.heap.size, pre.length, none⟩ u (w.heap.size + 1) (by simp)).trans Hit2.out
          simp only [World.iterPos, h2, Hhit.out]
          exact hm
      | false =>
        have Hi := Lib.hid hi
        by_cases e : dc t = 65533
        · have hpf : Lib.hasPrefix (s.extract pos s.size).data.toList (⟨#[239, 191, 189]⟩ : ByteArray).data.toList = true := by
            show Lib.hasPrefix (bl (s.extract pos s.size)) [239, 191, 189] = true
            rw [Hbx.out, fffd_prefix hne e, hi]; rfl
          rw [hpf] at hHP
          have e2 : ((dc t : Nat) : Int) = 65533 := by omega
          rw [e2] at hnx
          clear hd hb0 hit hblk hcl ht hdrop hbx hsx hblk2 hit2 hpf hi e e2 hcell hfr
          go_wp2_with (go_at_call 76; refine hHP.mono ?_; rintro e w' ⟨rfl, rfl⟩)
          go_roundw
          case rel =>
            exact ⟨pos + dw t, pre ++ [t], _, by simp, hpre2, Hit2.out, Hblk2.out, Hcl.out, by rw [mixed_same Hi.out]; exact htk2, hbw2⟩
          case measure =>
            simp only [World.iterPos, Hit2.out, Hhit.out]
            exact hm
        · have e2 : (((dc t : Nat) : Int) == 65533) = false := beq_eq_false_iff_ne.2 (by omega)
          clear hd hb0 hit hblk hcl ht hdrop hbx hsx hblk2 hit2 hi e hcell hfr hHP
          go_wp2
          go_roundw
          case rel =>
            exact ⟨pos + dw t, pre ++ [t], _, by simp, hpre2, Hit2.out, Hblk2.out, Hcl.out, by rw [mixed_same Hi.out]; exact htk2, hbw2⟩
          case measure =>
            simp only [World.iterPos, Hit2.out, Hhit.out]
            exact hm
    · have hnx : ∀ ty, (Instr.next (.pointer (some ⟨w.heap.size + 1, 0, none⟩)) true ty).run Tryd.prog wr = _ := fun ty => Lib.run_next_end_at wr (w.heap.size + 1) s pos ty hit hp
      have hend : (bl s).drop pos = [] := List.drop_eq_nil_of_le (by have := Hbl.out; omega)
      have hcl : cu.size = cap := hcu.out
      have hpe : sfx (bl s) = pre := by have := hpre.out; rw [hend, sfx_nil, List.append_nil] at this; exact this
      have htn : cu.toList.take n = (pts (bl s)).map (Value.int .i32) := by
        have := htk.out
        rw [hend, sfx_nil, ← hpe] at this
        rw [this]; simp [mixed, pts]
      have hnp : (pts (bl s)).length = n := by rw [Hns.out]; simp [pts]
      have hrow : Row wr w.heap.size 21 .i32 (.slice (some ⟨w.heap.size, 0, none⟩) n cap) (pts (bl s)) := by
        refine ⟨by simp, .inr ⟨w.heap.size, cap, cu, by rw [hnp], Nat.le_refl _, hblk, by omega, hlm, by omega, ?_⟩⟩
        rw [hnp, Nat.mul_one]; exact htn
      clear hend hcl hpe htn hnp hit hblk
      go_wp2
      go_ret
      exact ⟨_, rfl, hrow, hbw⟩
end Go.Proofs.YtbkimhbpcmbflaaDoor.C
set_option linter.unusedVariables false
set_option linter.unusedSimpArgs false
namespace Go.Proofs.YtbkimhbpcmbflaaDoor.C
open Go Go.RowKit Go.Proofs.YtbkimhbpcmbflaaDoor.M
/-- a row of whole numbers that is read: below block B -/
def Rd (w : World) (B : Nat) (k : IntKind) (A : Option Addr) (xs : List Int) : Prop :=
  xs = [] ∨ ∃ x : Addr, A = some x ∧ x.block < B ∧ ∀ j u, xs[j]? = some u → w.cell? (x.add j) = some (.int k u)
theorem add_block (a : Addr) (n : Nat) : (a.add n).block = a.block := by unfold Addr.add; split <;> rfl
theorem Rd.below {w w' : World} {B B' : Nat} {k : IntKind} {A : Option Addr} {xs : List Int} (h : Rd w B k A xs) (hb : Below B' w w') (hB : B ≤ B') : Rd w' B k A xs := by
  rcases h with h | ⟨x, e, hlt, hc⟩
  · exact .inl h
  · exact .inr ⟨x, e, hlt, fun j u hj => (hb.cell (p := x.add j) (by rw [add_block]; omega)).trans (hc j u hj)⟩
theorem Rd.more {w : World} {B B' : Nat} {k : IntKind} {A : Option Addr} {xs : List Int} (h : Rd w B k A xs) (hB : B ≤ B') : Rd w B' k A xs := by
  rcases h with h | ⟨x, e, hlt, hc⟩
  · exact .inl h
  · exact .inr ⟨x, e, by omega, hc⟩
theorem Row.reads {w : World} {base : Nat} {e : TypeId} {k : IntKind} {v : Value} {xs : List Int} (h : Row w base e k v xs) : ∃ A c, v = .slice A xs.length c ∧ xs.length ≤ c ∧ Rd w w.heap.size k A xs := by
  have h0 := h
  rcases h.2 with ⟨rfl, hn⟩ | ⟨g, cap, cur, rfl, hg, hh, hnc, hm, hcs, ht⟩
  · exact ⟨none, 0, by rw [hn], by omega, .inl (List.eq_nil_of_length_eq_zero hn)⟩
  · exact ⟨_, cap, rfl, hnc, .inr ⟨⟨g, 0, none⟩, rfl, (Array.getElem?_eq_some_iff.1 hh).1, fun j u hj => World.ownsRow.cells h0 (g := g) rfl j (.int k u) (by rw [List.getElem?_map, hj]; rfl)⟩⟩
/-- bytes as cells -/
def bcells (bs : List UInt8) : List Value := bs.map fun b => Value.int .u8 (b.toNat : Int)
theorem bcells_append (a b : List UInt8) : bcells (a ++ b) = bcells a ++ bcells b := by simp [bcells]
theorem conv_row {P : Program} {w : World} {base : Nat} {src e : TypeId} {v : Value} {bs : List UInt8} (hs : P.underlying src = some (.slice e)) (he : P.underlying e = some (.int .u8))
    (h : w.ownsRow base e 1 v bs.length (bcells bs)) : ∀ dst, P.underlying dst = some .string → (convert src dst v).run P w = .ok (.string ⟨bs.toArray⟩) w := by
  rcases h.2 with ⟨rfl, hn⟩ | ⟨g, cap, cur, rfl, hg, hh, hnc, hm, hcs, ht⟩
  · have : bs = [] := List.eq_nil_of_length_eq_zero hn
    subst this
    exact run_convert_bytes_nil w src e hs he 0 0
  · have hc : ∀ i, i < bs.length → w.cell? ⟨g, 0 + i, none⟩ = some (.int .u8 ((bs.map fun b => (b.toNat : Int)).getD i 0)) := fun i hi => by
      have := World.ownsRow.cells h (g := g) rfl i (.int .u8 (bs[i].toNat : Int)) (by simp [bcells, hi])
      have e : (⟨g, 0, none⟩ : Addr).add i = ⟨g, 0 + i, none⟩ := by unfold Addr.add; split <;> simp_all
      rw [e] at this
      rw [this]
      simp [List.getD, hi]
    have := run_convert_bytes_arg (P := P) w src e hs he g 0 bs.length cap (bs.map fun b => (b.toNat : Int)) (by simp) hc
    have e2 : strOfNums (bs.map fun b => (b.toNat : Int)) = ⟨bs.toArray⟩ := by
      unfold strOfNums
      rw [List.map_map]
      congr 2
      conv => rhs; rw [← List.map_id bs]
      exact List.map_congr_left fun b _ => by simp
    rw [e2] at this
    exact this
def isPt (x : Int) : Bool := Lib.validRune x || (decide (1114240 ≤ x) && decide (x ≤ 1114367))
def pb (x : Int) : List UInt8 := if Lib.validRune x = true then (Utf8.encode x).data.toList else [UInt8.ofNat (x - 1114112).toNat]
def textP (xs : List Int) : List UInt8 := xs.flatMap pb
theorem pb_len (x : Int) : (pb x).length ≤ 4 := by
  unfold pb
  split
  · unfold Utf8.encode
    simp only []
    repeat' split
    all_goals simp
  · simp
theorem textP_len (xs : List Int) : (textP xs).length ≤ 4 * xs.length := by
  induction xs with
  | nil => simp [textP]
  | cons x xs ih =>
    have := pb_len x
    simp only [textP, List.flatMap_cons, List.length_append, List.length_cons] at ih ⊢
    omega
theorem Tryd.infoByte : (Tryd.prog.info? 5).map (fun i => (i.zero, i.size, i.bytes)) = some (some (.int .u8 0), 1, 1) := by kernel_rfl
set_option maxHeartbeats 4000000 in
set_option maxRecDepth 1000000 in
theorem text_some (w : World) (ad : Addr) (n cap : Nat) (xs : List Int) (hn : xs.length = n) (hn40 : n ≤ 35184372087808) (hb : ad.block < w.heap.size)
    (hx : ∀ x ∈ xs, -2147483648 ≤ x ∧ x ≤ 2147483647)
    (hc : ∀ j u, xs[j]? = some u → w.cell? (ad.add j) = some (.int .i32 u)) :
    Calls Tryd.prog 31 #[.slice (some ad) n cap] w fun e w' =>
      ((∀ x ∈ xs, isPt x = true) ∧ e = .returned (.tuple #[.string ⟨(textP xs).toArray⟩, .nilIface]) ∨
       ∃ k x, xs[k]? = some x ∧ isPt x = false ∧ (∀ x ∈ xs.take k, isPt x = true) ∧ e = .returned (.tuple #[.string ⟨#[]⟩, .iface 81 (.agg #[.int .i64 8, .int .i64 0, .int .i64 (k : Nat)])])) ∧ Below w.heap.size w w' := by
  obtain ⟨i0, hi, hz0, hz1, hz2⟩ := info_parts Tryd.infoByte
  have Hn := Lib.hid hn
  clear hn
  go_enter Tryd.func31, Tryd.ntmps31
  go_wp2
  go_loopw [4, 9] (fun bv kv wr => ∃ k : Nat, kv = .int .i64 k ∧ k ≤ n ∧ Hid (∀ x ∈ xs.take k, isPt x = true) ∧ Hid (wr.ownsRow w.heap.size 5 1 bv (textP (xs.take k)).length (bcells (textP (xs.take k)))) ∧ Below w.heap.size w wr)
    (fun _ kv _ => n - (intOf kv).toNat)
  case atStart =>
    exact ⟨0, rfl, Nat.zero_le _, by simp [Hid], World.ownsRow_nil _ _ _ _, Below.refl _ _⟩
  case round =>
    obtain ⟨k, rfl, hk, hall, hown, hbw⟩ := hrel
    by_cases hlt : k < n
    · have hkx : k < xs.length := by have := Hn.out; omega
      obtain ⟨x, hxk⟩ : ∃ x, xs[k]? = some x := ⟨_, List.getElem?_eq_getElem hkx⟩
      have hcell : wr.cell? (ad.add k) = some (.int .i32 x) := (hbw.cell (p := ad.add k) (by rw [add_block]; exact hb)).trans (hc k x hxk)
      have hmem : x ∈ xs := List.mem_of_getElem? hxk
      obtain ⟨hx1, hx2⟩ := hx x hmem
      have htk : xs.take (k + 1) = xs.take k ++ [x] := by rw [List.take_add_one, hxk]; rfl
      have cV := fun W => (Tryd.utf8_ValidRune x W).mono (R' := fun e w' => e = .returned (.bool (Lib.validRune x)) ∧ W = w') (fun _ _ h => ⟨h.1, h.2.symm⟩)
      have Htk := Lib.hid htk
      have Hxk := Lib.hid hxk
      clear htk hxk hx hc
      have hltI : (k : Int) < n := by omega
      cases hv : Lib.validRune x with
      | true =>
        rw [hv] at cV
        have Hv := Lib.hid hv
        clear hv
        have hlen := textP_len (xs.take k)
        have hlen2 : (xs.take k).length ≤ k := List.length_take_le _ _
        have hel : (Utf8.encode x).size ≤ 4 := by
          have := pb_len x
          rw [pb, if_pos Hv.out] at this
          have h2 := Lib.size_eq (Utf8.encode x)
          omega
        have hbs := hbw.size
        go_wp2_with (first | (go_at_call 81; refine (cV _).mono ?_; rintro e w' ⟨rfl, rfl⟩) | (at_builtin; refine Lib.wpList_append_own_string _ rfl _ _ 72 9 rfl w.heap.size 5 i0 Tryd.underlying72 Tryd.underlying9 hi hz0 hz1 hz2 _ _ _ rfl hown.out (Utf8.encode x) rfl (by unfold maxLen; omega) (by omega) (by omega) ?_; intro v' w1 hown1 hgrow1 _))
        go_roundw
        case rel =>
          have e1 : textP (xs.take (k + 1)) = textP (xs.take k) ++ bl (Utf8.encode x) := by
            rw [Htk.out]; simp [textP, pb, Hv.out, bl]
          refine ⟨k + 1, by go_num, by omega, ?_, ?_, hbw.grown hgrow1 hbs (fun g hg => (hown.out.lt g hg).1)⟩
          · show ∀ y ∈ xs.take (k + 1), _
            rw [Htk.out]
            intro y hy
            rcases List.mem_append.1 hy with hy | hy
            · exact hall.out y hy
            · rw [List.mem_singleton.1 hy]; simp [isPt, Hv.out]
          · show w1.ownsRow _ _ _ _ _ _
            rw [e1, List.length_append, bcells_append, bl_len]
            exact hown1
        case measure => simp [intOf]; omega
      | false =>
        by_cases hr : 1114240 ≤ x ∧ x ≤ 1114367
        · obtain ⟨hr1, hr2⟩ := hr
          rw [hv] at cV
          have Hv := Lib.hid hv
          clear hv
          have hlen := textP_len (xs.take k)
          have hlen2 : (xs.take k).length ≤ k := List.length_take_le _ _
          have hbs := hbw.size
          go_wp2_with (first | (go_at_call 81; refine (cV _).mono ?_; rintro e w' ⟨rfl, rfl⟩) | (at_builtin; refine wpList_append_own _ rfl _ _ 72 rfl w.heap.size 5 i0 (.int .u8 0) 1 1 Tryd.underlying72 hi hz0 hz1 hz2 rfl (by decide) _ _ _ rfl (hown.out.alloc _) ⟨wr.heap.size, 0, none⟩ 1 1 [_] rfl rfl (cell_one_new _ _ _) (by intro u hu; rw [List.mem_singleton.1 hu]; rfl) (by unfold maxLen; omega) (by omega) (by simp; omega) ?_; intro v' w1 hown1 hgrow1 _))
          go_roundw
          case rel =>
            have e1 : textP (xs.take (k + 1)) = textP (xs.take k) ++ [UInt8.ofNat (x - 1114112).toNat] := by
              rw [Htk.out]; simp [textP, pb, Hv.out]
            refine ⟨k + 1, by go_num, by omega, ?_, ?_, (hbw.alloc hbs _).grown hgrow1 (by simp; omega) (fun g hg => (hown.out.lt g hg).1)⟩
            · show ∀ y ∈ xs.take (k + 1), _
              rw [Htk.out]
              intro y hy
              rcases List.mem_append.1 hy with hy | hy
              · exact hall.out y hy
              · rw [List.mem_singleton.1 hy]; simp [isPt, Hv.out, hr1, hr2]
            · show w1.ownsRow _ _ _ _ _ _
              rw [e1, List.length_append, bcells_append]
              have e3 : ((UInt8.ofNat (x - 1114112).toNat).toNat : Int) = x - 1114112 := by
                rw [ofNat_toNat (by omega)]; omega
              simp only [bcells, List.map_cons, List.map_nil, e3]
              exact hown1
          case measure => simp [intOf]; omega
        · rw [hv] at cV
          have hnp : isPt x = false := by
            simp [isPt, hv]; omega
          have Hv := Lib.hid hv
          have Hnp := Lib.hid hnp
          clear hv hnp
          by_cases hr1 : 1114240 ≤ x
          · have hr2 : 1114367 < x := by omega
            clear hr
            go_wp2_with (first | (go_at_call 81; refine (cV _).mono ?_; rintro e w' ⟨rfl, rfl⟩))
            go_ret2
            exact ⟨.inr ⟨k, x, Hxk.out, Hnp.out, hall.out, rfl⟩, hbw⟩
          · have hr2 : x < 1114240 := by omega
            clear hr hr1
            go_wp2_with (first | (go_at_call 81; refine (cV _).mono ?_; rintro e w' ⟨rfl, rfl⟩))
            go_ret2
            exact ⟨.inr ⟨k, x, Hxk.out, Hnp.out, hall.out, rfl⟩, hbw⟩
    · obtain rfl : k = n := by omega
      have hfull : xs.take k = xs := List.take_of_length_le (by have := Hn.out; omega)
      have hcv := conv_row (P := Tryd.prog) (src := 72) Tryd.underlying72 Tryd.underlying5 hown.out 9 Tryd.underlying9
      rw [hfull] at hcv
      have Hfull := Lib.hid hfull
      clear hfull hx hc
      go_wp2
      go_ret2
      refine ⟨.inl ⟨?_, rfl⟩, hbw⟩
      have := hall.out
      rw [Hfull.out] at this
      exact this
set_option maxHeartbeats 1000000 in
theorem text_none (w : World) (A : Option Addr) (cap : Nat) :
    Calls Tryd.prog 31 #[.slice A 0 cap] w fun e w' => e = .returned (.tuple #[.string ⟨#[]⟩, .nilIface]) ∧ Below w.heap.size w w' := by
  have hcv := conv_row (P := Tryd.prog) (w := w) (base := 0) (bs := []) (v := .slice none 0 0) (src := 72) Tryd.underlying72 Tryd.underlying5 (World.ownsRow_nil _ _ _ _) 9 Tryd.underlying9
  go_enter Tryd.func31, Tryd.ntmps31
  go_wp2
  refine wp_loop_rounds 1 ?_
  rw [rounds_succ]
  go_wp2
  go_ret2
  exact ⟨rfl, Below.refl _ _⟩
/-- what points.Text answers: the text; or the place of the first that is no point -/
theorem text_any (w : World) (A : Option Addr) (cap : Nat) (xs : List Int) (hn40 : xs.length ≤ 35184372087808) (hx : ∀ x ∈ xs, -2147483648 ≤ x ∧ x ≤ 2147483647) (hR : Rd w w.heap.size .i32 A xs) :
    Calls Tryd.prog 31 #[.slice A xs.length cap] w fun e w' =>
      ((∀ x ∈ xs, isPt x = true) ∧ e = .returned (.tuple #[.string ⟨(textP xs).toArray⟩, .nilIface]) ∨
       ∃ k x, xs[k]? = some x ∧ isPt x = false ∧ (∀ x ∈ xs.take k, isPt x = true) ∧ e = .returned (.tuple #[.string ⟨#[]⟩, .iface 81 (.agg #[.int .i64 8, .int .i64 0, .int .i64 (k : Nat)])])) ∧ Below w.heap.size w w' := by
  rcases hR with rfl | ⟨x, rfl, hb, hc⟩
  · refine (text_none w A cap).mono fun e w' h => ⟨.inl ⟨by simp, ?_⟩, h.2⟩
    rw [h.1]; rfl
  · exact text_some w x xs.length cap xs rfl hn40 hb hx hc
end Go.Proofs.YtbkimhbpcmbflaaDoor.C
set_option linter.unusedVariables false
set_option linter.unusedSimpArgs false
namespace Go.Proofs.YtbkimhbpcmbflaaDoor.E
open Go Go.RowKit Go.Extern.Stop Go.Stop Go.Extern
theorem typeOfNo (v : Value) (w : World) : (ReflectliteType.typeOf #[.iface 79 v]).run Tryd.prog w = .ok (.iface 146 (.agg #[.pointer (some ⟨4, 79, none⟩)])) w := by kernel_rfl
theorem comparableNo (w : World) : ((ReflectliteType.method fun t => do Rtype.noPackHeld "Comparable" t; (fun a => Value.bool a.comparable) <$> typeInfo t) #[.agg #[.pointer (some ⟨4, 79, none⟩)]]).run Tryd.prog w = .ok (.bool true) w := by kernel_rfl
theorem methodComparable (v : Value) (w : World) : (Go.method 288 146 v "Comparable").run Tryd.prog w = .ok (164, v) w := by kernel_rfl
theorem noIsF (v : Value) (xT : TypeId) (w : World) : (Instr.typeAssert (.iface 81 v) xT 158 true).run Tryd.prog w = .ok (.tuple #[.nilIface, .bool false]) w := run_typeAssert_lacksB Tryd.underlying158 (by kernel_rfl) (by kernel_rfl) v xT w
theorem noIsN (v : Value) (xT : TypeId) (w : World) : (Instr.typeAssert (.iface 79 v) xT 158 true).run Tryd.prog w = .ok (.tuple #[.nilIface, .bool false]) w := run_typeAssert_lacksB Tryd.underlying158 (by kernel_rfl) (by kernel_rfl) v xT w
theorem hasUnwrapF (v : Value) (xT : TypeId) (w : World) : (Instr.typeAssert (.iface 81 v) xT 153 true).run Tryd.prog w = .ok (.tuple #[.iface 81 v, .bool true]) w := run_typeAssert_hasB Tryd.underlying153 (by kernel_rfl) v xT w
theorem noUnwrapN (v : Value) (xT : TypeId) (w : World) : (Instr.typeAssert (.iface 79 v) xT 153 true).run Tryd.prog w = .ok (.tuple #[.nilIface, .bool false]) w := run_typeAssert_lacksB Tryd.underlying153 (by kernel_rfl) (by kernel_rfl) v xT w
theorem noUnwrapsN (v : Value) (xT : TypeId) (w : World) : (Instr.typeAssert (.iface 79 v) xT 155 true).run Tryd.prog w = .ok (.tuple #[.nilIface, .bool false]) w := run_typeAssert_lacksB Tryd.underlying155 (by kernel_rfl) (by kernel_rfl) v xT w
theorem methodUnwrap (v : Value) (w : World) : (Go.method 288 81 v "Unwrap").run Tryd.prog w = .ok (157, v) w := by kernel_rfl
theorem infoNo : (Tryd.prog.info? 79).map (·.comparable) = some true := by kernel_rfl
/-- '==' between two interface values of ONE integer type: as the numbers are. -/
theorem run_eql_iface_int {P : Program} (w : World) {ti tn : TypeId} {ms : Array (String × TypeId)} {i : TypeInfo} {k : IntKind} (a b : Int)
    (hi : P.underlying ti = some (.interface ms)) (hn : P.underlying tn = some (.int k)) (hinfo : P.info? tn = some i) (hcomp : i.comparable = true) :
    (binOp .eql ti (.iface tn (.int k a)) (.iface tn (.int k b))).run P w = .ok (.bool (a == b)) w := by
  have h : ∀ d : Nat, (Op.equalIn (d + 2) ti (.iface tn (.int k a)) (.iface tn (.int k b))).run P w = .ok (a == b) w := fun d => by
    simp [Op.equalIn, run_underlying hi, run_underlying hn, typeInfo, hinfo, hcomp]
  simp only [binOp]
  simp [Op.equal, Op.maxDepth, h 9998]
abbrev flt (no line at_ : Int) : Value := .iface 81 (.agg #[.int .i64 no, .int .i64 line, .int .i64 at_])
abbrev erno (n : Int) : Value := .iface 79 (.int .i64 n)
set_option maxHeartbeats 4000000 in
set_option maxRecDepth 1000000 in
/-- errors.Is(Fault, Errno): as the numbers are. -/
theorem is_fault (no line at_ n : Int) (w : World) :
    Calls Tryd.prog 114 #[flt no line at_, erno n] w fun e w' => e = .returned (.bool (no == n)) ∧ Below w.heap.size w w' := by
  obtain ⟨i, hi, hcmp⟩ := Option.map_eq_some_iff.1 infoNo
  have h1 := @run_callFunc_extern Tryd.prog 129 _ ReflectliteType.typeOf Tryd.func129 (by kernel_rfl) (by kernel_rfl) (by kernel_rfl) (by kernel_rfl)
  have h2 := @run_callFunc_extern Tryd.prog 164 _ (ReflectliteType.method fun t => do Rtype.noPackHeld "Comparable" t; pure (.bool (← typeInfo t).comparable)) Tryd.func164 (by kernel_rfl) (by kernel_rfl) (by kernel_rfl) (by kernel_rfl)
  have tT := typeOfNo
  have cT := comparableNo
  have mR := methodComparable
  have nE := noIsF
  have nN := noIsN
  have uF := hasUnwrapF
  have uN := noUnwrapN
  have vN := noUnwrapsN
  have mU := methodUnwrap
  have heq := fun W : World => run_eql_iface_int (P := Tryd.prog) W no n Tryd.underlying33 Tryd.underlying79 hi hcmp
  have hty := run_eql_iface_types (P := Tryd.prog) 81 79 (.agg #[.int .i64 no, .int .i64 line, .int .i64 at_]) (.int .i64 n) Tryd.underlying33 (by decide) w
  obtain ⟨b, hb⟩ : ∃ b, (no == n) = b := ⟨_, rfl⟩
  simp only [hb] at heq ⊢
  clear hb
  cases b
  all_goals
    go_enter Tryd.func114, Tryd.ntmps114
    go_wp2
    refine wp_loop_rounds 2 ?_
    rw [rounds_succ]
    go_wp2
    rw [rounds_succ]
    go_wp2
    go_ret
    exact ⟨rfl, (Below.refl _ _).alloc (Nat.le_refl _) _⟩
theorem valueOfP (t : Addr) (w : World) : (ReflectliteValue.unpack (.iface 107 (.pointer (some t)))).run Tryd.prog w
    = .ok (.agg #[.pointer (some ⟨4, 107, none⟩), .pointer (some ⟨w.heap.size, 0, none⟩), .int .u64 150]) (w.alloc (.cells #[.pointer (some t)] 107)) := by kernel_rfl
theorem typeP (a : Addr) (w : World) : (ReflectliteValue.methodAny (ReflectliteValue.valueError "reflectlite.Value.Type" 0) (fun t _ _ _ => ReflectliteType.toType t) #[.agg #[.pointer (some ⟨4, 107, none⟩), .pointer (some a), .int .u64 150]]).run Tryd.prog w
    = .ok (.iface 146 (.agg #[.pointer (some ⟨4, 107, none⟩)])) w := by kernel_rfl
theorem methodElem (h : Value) (w : World) : (Go.method 288 146 (.agg #[h]) "Elem").run Tryd.prog w = .ok (165, .agg #[h]) w := by kernel_rfl
theorem methodImplements (h : Value) (w : World) : (Go.method 288 146 (.agg #[h]) "Implements").run Tryd.prog w = .ok (166, .agg #[h]) w := by kernel_rfl
theorem methodAssignableTo (h : Value) (w : World) : (Go.method 288 146 (.agg #[h]) "AssignableTo").run Tryd.prog w = .ok (163, .agg #[h]) w := by kernel_rfl
theorem methodKind (h : Value) (w : World) : (Go.method 288 146 (.agg #[h]) "Kind").run Tryd.prog w = .ok (152, h) w := by kernel_rfl
theorem kindP (w : World) : ((ReflectliteType.abiMethod fun t => (fun a : Nat => Value.int IntKind.u8 (a : Int)) <$> Rtype.kind t) #[.pointer (some ⟨4, 107, none⟩)]).run Tryd.prog w = .ok (.int .u8 22) w := by kernel_rfl
theorem kindF (w : World) : ((ReflectliteType.abiMethod fun t => (fun a : Nat => Value.int IntKind.u8 (a : Int)) <$> Rtype.kind t) #[.pointer (some ⟨4, 81, none⟩)]).run Tryd.prog w = .ok (.int .u8 25) w := by kernel_rfl
theorem elemP (w : World) : (ReflectliteType.method ReflectliteType.elem #[.agg #[.pointer (some ⟨4, 107, none⟩)]]).run Tryd.prog w = .ok (.iface 146 (.agg #[.pointer (some ⟨4, 81, none⟩)])) w := by kernel_rfl
theorem implementsF (w : World) : (ReflectliteType.relation "Implements" ReflectliteType.implements_ #[.agg #[.pointer (some ⟨4, 81, none⟩)], .iface 146 (.agg #[.pointer (some ⟨4, 33, none⟩)])]).run Tryd.prog w = .ok (.bool true) w := by kernel_rfl
theorem typeOfF (v : Value) (w : World) : (ReflectliteType.typeOf #[.iface 81 v]).run Tryd.prog w = .ok (.iface 146 (.agg #[.pointer (some ⟨4, 81, none⟩)])) w := by kernel_rfl
theorem assignableF (w : World) : (ReflectliteType.relation "AssignableTo" ReflectliteType.assignableTo #[.agg #[.pointer (some ⟨4, 81, none⟩)], .iface 146 (.agg #[.pointer (some ⟨4, 81, none⟩)])]).run Tryd.prog w = .ok (.bool true) w := by kernel_rfl
theorem valueOfF (a b c : Value) (w : World) : (ReflectliteValue.unpack (.iface 81 (.agg #[a, b, c]))).run Tryd.prog w
    = .ok (.agg #[.pointer (some ⟨4, 81, none⟩), .pointer (some ⟨w.heap.size, 0, none⟩), .int .u64 153]) (w.alloc (.cells #[a, b, c] 81)) := by kernel_rfl
theorem rlm (z : Sem Value) (f : TypeId → Addr → Nat → Nat → Sem Value) (v : Value) :
    ReflectliteValue.method z f #[v] = (do match ← ReflectliteValue.parts v with | none => z | some (t, a, fl) => f t a fl (fl % 32)) := rfl
theorem partsP (a : Addr) (w : World) : (ReflectliteValue.parts (.agg #[.pointer (some ⟨4, 107, none⟩), .pointer (some a), .int .u64 150])).run Tryd.prog w = .ok (some (107, a, 150)) w := by kernel_rfl
theorem isNilP (a p : Addr) (W : World) (ha : W.cell? a = some (.pointer (some p))) :
    (ReflectliteValue.method (ReflectliteValue.valueError "reflectlite.Value.IsNil" 0) ReflectliteValue.isNil #[.agg #[.pointer (some ⟨4, 107, none⟩), .pointer (some a), .int .u64 150]]).run Tryd.prog W = .ok (.bool false) W := by
  rw [rlm]
  simp only [Sem.run_bind, partsP, Result.andThen]
  simp [ReflectliteValue.isNil, loadVar, isAgg, underlying, Tryd.underlying107, ha, Result.andThen]
theorem elemOfP (w : World) : (Rtype.elem? 107).run Tryd.prog w = .ok (some 81) w := by kernel_rfl
theorem mkF (p : Addr) (w : World) : (ReflectliteValue.mk 81 p ReflectliteValue.flagAddr).run Tryd.prog w = .ok (.agg #[.pointer (some ⟨4, 81, none⟩), .pointer (some p), .int .u64 409]) w := by kernel_rfl
theorem elemVP (a p : Addr) (W : World) (ha : W.cell? a = some (.pointer (some p))) :
    (ReflectliteValue.method (ReflectliteValue.valueError "reflectlite.Value.Elem" 0) ReflectliteValue.elem #[.agg #[.pointer (some ⟨4, 107, none⟩), .pointer (some a), .int .u64 150]]).run Tryd.prog W
      = .ok (.agg #[.pointer (some ⟨4, 81, none⟩), .pointer (some p), .int .u64 409]) W := by
  rw [rlm]
  simp only [Sem.run_bind, partsP, Result.andThen]
  simp [ReflectliteValue.elem, loadVar, isAgg, underlying, Tryd.underlying107, ha, Result.andThen, elemOfP, mkF]
theorem rls (v x : Value) : ReflectliteValue.set #[v, x] = (do
    let (some (dst, a, fl), some (src, b, _)) := (← ReflectliteValue.parts v, ← ReflectliteValue.parts x)
      | unsupported (.noEntry "extern/(internal/reflectlite.Value).Set.zeroValue")
    if fl / ReflectliteValue.flagAddr % 2 == 0 then unsupported (.noEntry "extern/(internal/reflectlite.Value).Set.unaddressable")
    let val ← loadVar src b
    if ← Rtype.directlyAssignable dst src then storeVar dst a val
    else if ← Rtype.implements dst src then
      if (← Rtype.kind src) == 20 then
        match val with
        | .nilIface => unsupported (.noEntry "extern/reflectlite: a nil value of one interface type handed on as a value of another")
        | _ => storeVar dst a val
      else storeVar dst a (.iface src val)
    else panicString ("reflectlite.Set: value of type " ++ (← Rtype.spelt src) ++ " is not assignable to type " ++ (← Rtype.spelt dst))
    pure (.tuple #[])) := rfl
theorem partsFa (a : Addr) (w : World) : (ReflectliteValue.parts (.agg #[.pointer (some ⟨4, 81, none⟩), .pointer (some a), .int .u64 409])).run Tryd.prog w = .ok (some (81, a, 409)) w := by kernel_rfl
theorem partsF (a : Addr) (w : World) : (ReflectliteValue.parts (.agg #[.pointer (some ⟨4, 81, none⟩), .pointer (some a), .int .u64 153])).run Tryd.prog w = .ok (some (81, a, 153)) w := by kernel_rfl
theorem directF (w : World) : (Rtype.directlyAssignable 81 81).run Tryd.prog w = .ok true w := by kernel_rfl
theorem sizeF : (Tryd.prog.info? 81).map (·.size) = some 3 := by kernel_rfl
end Go.Proofs.YtbkimhbpcmbflaaDoor.E
set_option linter.unusedVariables false
set_option linter.unusedSimpArgs false
namespace Go.Proofs.YtbkimhbpcmbflaaDoor.E
open Go Go.RowKit Go.Extern.Stop Go.Stop Go.Extern
theorem setF (T b : Nat) (old : Array Value) (x y z : Value) (W : World) (hx : x.oneCell' = true) (hy : y.oneCell' = true) (hz : z.oneCell' = true)
    (hb : W.heap[b]? = some (.cells #[x, y, z] 81 (0, 0))) (hT : W.heap[T]? = some (.cells old 81 (0, 0))) (ho : old.size = 3) :
    (ReflectliteValue.set #[.agg #[.pointer (some ⟨4, 81, none⟩), .pointer (some ⟨T, 0, none⟩), .int .u64 409], .agg #[.pointer (some ⟨4, 81, none⟩), .pointer (some ⟨b, 0, none⟩), .int .u64 153]]).run Tryd.prog W
      = .ok (.tuple #[]) (W.setRow T #[x, y, z]) := by
  have h1 := run_loadVar_row (P := Tryd.prog) W b 81 81 #[x, y, z] (0, 0) _ hb Tryd.underlying81 rfl sizeF
  have h2 := run_storeVar_row (P := Tryd.prog) W T 81 81 old #[x, y, z] hT sizeF (by rw [ho]; rfl) (by simp [hx, hy, hz])
  rw [rls]
  simp only [Sem.run_bind, partsFa, partsF, Result.andThen]
  simp [ReflectliteValue.flagAddr, h1, h2, directF, Result.andThen]
/-- what errors.As leaves -/
structure AsPost (T : Nat) (x y z : Value) (w : World) (e : Ending) (w' : World) : Prop where
  ret : e = .returned (.bool true)
  blk : w'.heap[T]? = some (.cells #[x, y, z] 81 (0, 0))
  grown : w.grownBy w' (some T)
set_option maxHeartbeats 4000000 in
set_option maxRecDepth 1000000 in
theorem as_fault (T : Nat) (old : Array Value) (no line at_ : Int) (w : World) (hg : w.cell? ⟨2, 0, none⟩ = some (.iface 146 (.agg #[.pointer (some ⟨4, 33, none⟩)])))
    (hT : w.heap[T]? = some (.cells old 81 (0, 0))) (ho : old.size = 3) :
    Calls Tryd.prog 113 #[flt no line at_, .iface 107 (.pointer (some ⟨T, 0, none⟩))] w (AsPost T (.int .i64 no) (.int .i64 line) (.int .i64 at_) w) := by
  have e1 := @run_callFunc_extern Tryd.prog 125 _ (fun args => ReflectliteValue.unpack (args.getD 0 (.tuple #[]))) Tryd.func125 (by kernel_rfl) (by kernel_rfl) (by kernel_rfl) (by kernel_rfl)
  have e2 := @run_callFunc_extern Tryd.prog 126 _ (ReflectliteValue.methodAny (ReflectliteValue.valueError "reflectlite.Value.Type" 0) (fun t _ _ _ => ReflectliteType.toType t)) Tryd.func126 (by kernel_rfl) (by kernel_rfl) (by kernel_rfl) (by kernel_rfl)
  have e3 := @run_callFunc_extern Tryd.prog 127 _ (ReflectliteValue.method (ReflectliteValue.valueError "reflectlite.Value.IsNil" 0) ReflectliteValue.isNil) Tryd.func127 (by kernel_rfl) (by kernel_rfl) (by kernel_rfl) (by kernel_rfl)
  have e4 := @run_callFunc_extern Tryd.prog 152 _ (ReflectliteType.abiMethod fun t => do pure (.int .u8 (← Rtype.kind t))) Tryd.func152 (by kernel_rfl) (by kernel_rfl) (by kernel_rfl) (by kernel_rfl)
  have e5 := @run_callFunc_extern Tryd.prog 165 _ (ReflectliteType.method ReflectliteType.elem) Tryd.func165 (by kernel_rfl) (by kernel_rfl) (by kernel_rfl) (by kernel_rfl)
  have e6 := @run_callFunc_extern Tryd.prog 166 _ (ReflectliteType.relation "Implements" ReflectliteType.implements_) Tryd.func166 (by kernel_rfl) (by kernel_rfl) (by kernel_rfl) (by kernel_rfl)
  have e7 := @run_callFunc_extern Tryd.prog 129 _ ReflectliteType.typeOf Tryd.func129 (by kernel_rfl) (by kernel_rfl) (by kernel_rfl) (by kernel_rfl)
  have e8 := @run_callFunc_extern Tryd.prog 163 _ (ReflectliteType.relation "AssignableTo" ReflectliteType.assignableTo) Tryd.func163 (by kernel_rfl) (by kernel_rfl) (by kernel_rfl) (by kernel_rfl)
  have e9 := @run_callFunc_extern Tryd.prog 135 _ (ReflectliteValue.method (ReflectliteValue.valueError "reflectlite.Value.Elem" 0) ReflectliteValue.elem) Tryd.func135 (by kernel_rfl) (by kernel_rfl) (by kernel_rfl) (by kernel_rfl)
  have e10 := @run_callFunc_extern Tryd.prog 136 _ ReflectliteValue.set Tryd.func136 (by kernel_rfl) (by kernel_rfl) (by kernel_rfl) (by kernel_rfl)
  have f1 := valueOfP
  have f2 := typeP
  have f3 := methodKind
  have f4 := methodElem
  have f5 := methodImplements
  have f6 := methodAssignableTo
  have f7 := kindP
  have f8 := kindF
  have f9 := elemP
  have f10 := implementsF
  have f11 := typeOfF
  have f12 := assignableF
  have f13 := valueOfF
  have hlt : 2 < w.heap.size := by
    rcases Nat.lt_or_ge 2 w.heap.size with h | h
    · exact h
    · simp [World.cell?, Array.getElem?_eq_none h] at hg
  have hTl : T < w.heap.size := (Array.getElem?_eq_some_iff.1 hT).1
  obtain ⟨t, ht⟩ : ∃ t : Addr, t = ⟨T, 0, none⟩ := ⟨_, rfl⟩
  rw [← ht]
  let w1 := w.alloc (.cells #[.pointer (some t)] 107)
  let w2 := w1.alloc (.cells #[.pointer (some ⟨4, 107, none⟩), .pointer (some ⟨w.heap.size, 0, none⟩), .int .u64 150] 127)
  let w3 := w2.alloc (.cells #[.pointer (some ⟨4, 107, none⟩), .pointer (some ⟨w.heap.size, 0, none⟩), .int .u64 150] 127)
  let w4 := w3.alloc (.cells #[.int .i64 no, .int .i64 line, .int .i64 at_] 81)
  have b1 : Below w.heap.size w w1 := (Below.refl _ _).alloc (Nat.le_refl _) _
  have b2 : Below w.heap.size w w2 := b1.alloc (by simp [w1]) _
  have b3 : Below w.heap.size w w3 := b2.alloc (by simp [w2, w1]; omega) _
  have b4 : Below w.heap.size w w4 := b3.alloc (by simp [w3, w2, w1]; omega) _
  have n8 := isNilP ⟨w.heap.size, 0, none⟩ t w2 (by simp [w2, w1])
  have hg2 : w2.cell? ⟨2, 0, none⟩ = _ := (b2.cell (p := ⟨2, 0, none⟩) hlt).trans hg
  have el := elemVP ⟨w.heap.size, 0, none⟩ t w3 (by
    have : w3.cell? ⟨w.heap.size, 0, none⟩ = w2.cell? ⟨w.heap.size, 0, none⟩ := World.cell?_alloc_lt _ _ ⟨w.heap.size, 0, none⟩ (by simp [w2, w1]; omega)
    rw [this]; simp [w2, w1])
  have hT4 : w4.heap[T]? = some (.cells old 81 (0, 0)) := (b4.block T hTl).trans hT
  have hb4 : w4.heap[w.heap.size + 1 + 1 + 1]? = some (.cells #[.int .i64 no, .int .i64 line, .int .i64 at_] 81 (0, 0)) := by
    have e : w3.heap.size = w.heap.size + 1 + 1 + 1 := by simp [w3, w2, w1]
    rw [← e]
    exact heap_alloc_new w3 (.cells #[.int .i64 no, .int .i64 line, .int .i64 at_] 81)
  have st := setF T (w.heap.size + 1 + 1 + 1) old (.int .i64 no) (.int .i64 line) (.int .i64 at_) w4 rfl rfl rfl hb4 hT4 ho
  rw [← ht] at st
  have hgr : w.grownBy (w4.setRow T #[.int .i64 no, .int .i64 line, .int .i64 at_]) (some T) := by
    refine ⟨b4.os, b4.tape, b4.output, ?_, fun k hk hne => ?_⟩
    · have := b4.size
      simpa [World.setRow] using this
    · have hkT : ¬ T = k := fun e => hne (by rw [e])
      have : (w4.setRow T #[.int .i64 no, .int .i64 line, .int .i64 at_]).heap[k]? = w4.heap[k]? := by
        unfold World.setRow
        rw [Array.getElem?_modify, if_neg hkT]
      rw [this]
      exact b4.block k hk
  have hbk : (w4.setRow T #[.int .i64 no, .int .i64 line, .int .i64 at_]).heap[T]? = some (.cells #[.int .i64 no, .int .i64 line, .int .i64 at_] 81 (0, 0)) := by
    unfold World.setRow
    rw [Array.getElem?_modify, if_pos rfl, hT4]
    rfl
  have Hgr := Lib.hid hgr
  have Hbk := Lib.hid hbk
  clear hgr hbk b1 b2 b3 b4 hT4 hb4 ht hg hT
  simp only [w4, w3, w2, w1] at n8 hg2 el st Hgr Hbk
  clear w4 w3 w2 w1
  go_enter Tryd.func113, Tryd.ntmps113
  go_wp2
  refine wp_loop_rounds 1 ?_
  rw [rounds_succ]
  go_wp2
  go_ret
  exact ⟨rfl, Hbk.out, Hgr.out⟩
end Go.Proofs.YtbkimhbpcmbflaaDoor.E
set_option linter.unusedVariables false
set_option linter.unusedSimpArgs false
namespace Go.Proofs.YtbkimhbpcmbflaaDoor.E
open Go Go.RowKit
set_option maxHeartbeats 4000000 in
set_option maxRecDepth 1000000 in
theorem num_fault (no line at_ : Int) (w : World) (h1 : 1 ≤ no) (h2 : no ≤ 25) :
    Calls Tryd.prog 84 #[flt no line at_] w fun e w' => e = .returned (.int .i64 no) ∧ Below w.heap.size w w' := by
  have cI := is_fault no line at_
  have hn0 : (no == 0) = false := beq_eq_false_iff_ne.2 (by omega)
  go_enter Tryd.func84, Tryd.ntmps84
  go_wp2
  go_loopw [3, 4] (fun f v wr => ∃ n : Nat, 1 ≤ n ∧ n ≤ 26 ∧ v = .int .i64 n ∧ f = .int .i64 (if no < n then no else 0) ∧ Below w.heap.size w wr) (fun _ v _ => 26 - (intOf v).toNat)
  case atStart => exact ⟨1, by omega, by omega, rfl, by rw [if_neg (by omega)], Below.refl _ _⟩
  case round =>
    obtain ⟨n, hn1, hn2, rfl, rfl, hbw⟩ := hrel
    by_cases hlt : n ≤ 25
    · have hltI : (n : Int) ≤ 25 := by omega
      have hbs := hbw.size
      by_cases he : no = n
      · have e1 : (if no < (n : Int) then no else 0) = 0 := if_neg (by omega)
        have e2 : (if no < ((n : Int) + 1) then no else 0) = (n : Int) := by rw [if_pos (by omega)]; exact he
        have E2 := Lib.hid e2
        have cI2 : ∀ W, Calls Tryd.prog 114 #[flt no line at_, erno n] W fun e w' => e = .returned (.bool true) ∧ Below W.heap.size W w' := fun W => by
          have := cI n W
          rw [show (no == (n : Int)) = true from beq_iff_eq.2 he] at this
          exact this
        rw [e1]
        clear e1 e2 he cI hn0
        go_wp2_with (go_at_call 114; refine (cI2 _).mono ?_; rintro e w' ⟨rfl, hb⟩)
        go_roundw
        case rel => exact ⟨n + 1, by omega, by omega, by go_num, by rw [show ((n + 1 : Nat) : Int) = (n : Int) + 1 by omega, E2.out], hbw.trans (hb.mono hbs)⟩
        case measure => simp [intOf]; omega
      · have cI2 : ∀ W, Calls Tryd.prog 114 #[flt no line at_, erno n] W fun e w' => e = .returned (.bool false) ∧ Below W.heap.size W w' := fun W => by
          have := cI n W
          rw [show (no == (n : Int)) = false from beq_eq_false_iff_ne.2 he] at this
          exact this
        have e2 : (if no < ((n : Int) + 1) then no else 0) = (if no < (n : Int) then no else 0) := by
          by_cases h : no < n
          · rw [if_pos h, if_pos (by omega)]
          · rw [if_neg h, if_neg (by omega)]
        have E2 := Lib.hid e2
        clear e2 he cI hn0
        go_wp2_with (go_at_call 114; refine (cI2 _).mono ?_; rintro e w' ⟨rfl, hb⟩)
        go_roundw
        case rel => exact ⟨n + 1, by omega, by omega, by go_num, by rw [show ((n + 1 : Nat) : Int) = (n : Int) + 1 by omega, E2.out], hbw.trans (hb.mono hbs)⟩
        case measure => simp [intOf]; omega
    · obtain rfl : n = 26 := by omega
      have e1 : (if no < ((26 : Nat) : Int) then no else 0) = no := if_pos (by omega)
      have cI2 : ∀ W, Calls Tryd.prog 114 #[flt no line at_, erno 0] W fun e w' => e = .returned (.bool false) ∧ Below W.heap.size W w' := fun W => by
        have := cI 0 W
        rw [hn0] at this
        exact this
      have hbs := hbw.size
      rw [e1]
      clear e1 cI
      go_wp2_with (go_at_call 114; refine (cI2 _).mono ?_; rintro e w' ⟨rfl, hb⟩)
      go_ret
      exact ⟨rfl, hbw.trans (hb.mono hbs)⟩
set_option maxHeartbeats 4000000 in
set_option maxRecDepth 1000000 in
theorem place_fault (no line at_ : Int) (w : World) (h1 : 1 ≤ no) (h2 : no ≤ 25) (hg : w.cell? ⟨2, 0, none⟩ = some (.iface 146 (.agg #[.pointer (some ⟨4, 33, none⟩)]))) :
    Calls Tryd.prog 83 #[flt no line at_] w fun e w' => e = .returned (.tuple #[.int .i64 line, .int .i64 at_, .bool true]) ∧ Below w.heap.size w w' := by
  have hlt : 2 < w.heap.size := by
    rcases Nat.lt_or_ge 2 w.heap.size with h | h
    · exact h
    · simp [World.cell?, Array.getElem?_eq_none h] at hg
  have cA := as_fault w.heap.size #[.int .i64 0, .int .i64 0, .int .i64 0] no line at_ (w.alloc (.cells #[.int .i64 0, .int .i64 0, .int .i64 0] 81)) ((World.cell?_alloc_lt _ _ ⟨2, 0, none⟩ hlt).trans hg) (heap_alloc_new _ _) rfl
  have cN := num_fault no line at_
  have e0 : (no == no) = true := by simp
  clear hg
  go_enter Tryd.func83, Tryd.ntmps83
  go_wp2_with (go_at_call 113; refine cA.mono ?_; rintro e w2 ⟨rfl, hblk, hgr⟩)
  have hbs : w.heap.size < w2.heap.size := (Array.getElem?_eq_some_iff.1 hblk).1
  have hb2 : Below w.heap.size w w2 := ((Below.refl _ w).alloc (Nat.le_refl _) _).grown hgr (by simp) (fun k hk => by cases hk; exact Nat.le_refl _)
  have k0 : w2.cell? ⟨w.heap.size, 0, none⟩ = some (.int .i64 no) := cell_of_row _ _ _ _ _ _ hblk
  have k1 : w2.cell? ⟨w.heap.size, 1, none⟩ = some (.int .i64 line) := cell_of_row _ _ _ _ _ _ hblk
  have k2 : w2.cell? ⟨w.heap.size, 2, none⟩ = some (.int .i64 at_) := cell_of_row _ _ _ _ _ _ hblk
  clear hblk hgr cA
  have cNS : ∀ W : World, (w2.heap.size ≤ W.heap.size ∧ Below w.heap.size w W ∧ W.cell? ⟨w.heap.size, 0, none⟩ = some (.int .i64 no) ∧ W.cell? ⟨w.heap.size, 1, none⟩ = some (.int .i64 line) ∧ W.cell? ⟨w.heap.size, 2, none⟩ = some (.int .i64 at_)) →
      Calls Tryd.prog 84 #[flt no line at_] W fun e w3 => e = .returned (.int .i64 no) ∧ (w2.heap.size ≤ w3.heap.size ∧ Below w.heap.size w w3 ∧ w3.cell? ⟨w.heap.size, 0, none⟩ = some (.int .i64 no) ∧ w3.cell? ⟨w.heap.size, 1, none⟩ = some (.int .i64 line) ∧ w3.cell? ⟨w.heap.size, 2, none⟩ = some (.int .i64 at_)) := fun W ⟨s1, s2, s3, s4, s5⟩ =>
    (cN W h1 h2).mono fun e w3 ⟨he, hb3⟩ => ⟨he, Nat.le_trans s1 hb3.size, s2.trans (hb3.mono (by omega)), (hb3.cell (p := ⟨w.heap.size, 0, none⟩) (by show w.heap.size < W.heap.size; omega)).trans s3, (hb3.cell (p := ⟨w.heap.size, 1, none⟩) (by show w.heap.size < W.heap.size; omega)).trans s4, (hb3.cell (p := ⟨w.heap.size, 2, none⟩) (by show w.heap.size < W.heap.size; omega)).trans s5⟩
  have hb2d : Below w.heap.size w w2.drew := hb2.drew
  clear cN
  go_wp2
  go_region_held3 (fun W => w2.heap.size ≤ W.heap.size ∧ Below w.heap.size w W ∧ W.cell? ⟨w.heap.size, 0, none⟩ = some (.int .i64 no) ∧ W.cell? ⟨w.heap.size, 1, none⟩ = some (.int .i64 line) ∧ W.cell? ⟨w.heap.size, 2, none⟩ = some (.int .i64 at_)) (first | exact ⟨by assumption, by assumption, by assumption, by assumption, by assumption⟩ | exact ⟨Nat.le_refl _, by assumption, by assumption, by assumption, by assumption⟩)
    (first | (go_at_call 84; refine (cNS _ ?_).mono ?_; (first | exact ⟨by assumption, by assumption, by assumption, by assumption, by assumption⟩ | exact ⟨Nat.le_refl _, by assumption, by assumption, by assumption, by assumption⟩); rintro e w3 ⟨rfl, s1, s2, s3, s4, s5⟩))
  all_goals go_wp2
  all_goals go_ret3
  all_goals exact ⟨rfl, s2⟩
set_option maxHeartbeats 4000000 in
set_option maxRecDepth 1000000 in
/-- At: the number and the place of a Fault are its own. -/
theorem at_fault (no line at_ : Int) (w : World) (h1 : 1 ≤ no) (h2 : no ≤ 25) (hg : w.cell? ⟨2, 0, none⟩ = some (.iface 146 (.agg #[.pointer (some ⟨4, 33, none⟩)]))) :
    Calls Tryd.prog 33 #[flt no line at_, .int .i64 no, .int .i64 line, .int .i64 at_] w fun e w' => e = .returned (.bool true) ∧ Below w.heap.size w w' := by
  have cP := place_fault no line at_ w h1 h2 hg
  have cN := num_fault no line at_
  have n0 : (no == 0) = false := beq_eq_false_iff_ne.2 (by omega)
  have e0 : (no == no) = true := by simp
  have e1 : (line == line) = true := by simp
  have e2 : (at_ == at_) = true := by simp
  clear hg
  go_enter Tryd.func33, Tryd.ntmps33
  go_wp2_with (first | (go_at_call 83; refine cP.mono ?_; rintro e w2 ⟨rfl, hb⟩) | (go_at_call 84; refine (cN _ h1 h2).mono ?_; rintro e w3 ⟨rfl, hb3⟩))
  go_ret
  exact ⟨rfl, hb.trans (hb3.mono hb.size)⟩
end Go.Proofs.YtbkimhbpcmbflaaDoor.E
set_option linter.unusedVariables false
set_option linter.unusedSimpArgs false
namespace Go.Proofs.YtbkimhbpcmbflaaDoor.C
open Go Go.RowKit Go.Proofs.YtbkimhbpcmbflaaDoor.M Go.Proofs.YtbkimhbpcmbflaaDoor.E
/-- errors.errorType as it is laid -/
def HE (w : World) : Prop := w.cell? ⟨2, 0, none⟩ = some (.iface 146 (.agg #[.pointer (some ⟨4, 33, none⟩)]))
theorem HE.lt {w : World} (h : HE w) : 2 < w.heap.size := by
  rcases Nat.lt_or_ge 2 w.heap.size with h' | h'
  · exact h'
  · unfold HE at h
    simp [World.cell?, Array.getElem?_eq_none h'] at h
theorem HE.below {w w' : World} {B : Nat} (h : HE w) (hb : Below B w w') (hB : w.heap.size ≤ B) : HE w' :=
  (hb.cell (p := ⟨2, 0, none⟩) (by have := h.lt; show 2 < B; omega)).trans h
theorem Row.below {w w' : World} {base : Nat} {e : TypeId} {k : IntKind} {v : Value} {xs : List Int} (h : Row w base e k v xs) (hb : Below w.heap.size w w') : Row w' base e k v xs := by
  refine ⟨h.1, ?_⟩
  rcases h.2 with h | ⟨g, cap, cur, h1, h2, h3, h4⟩
  · exact .inl h
  · exact .inr ⟨g, cap, cur, h1, h2, (hb.block g (Array.getElem?_eq_some_iff.1 h3).1).trans h3, h4⟩
set_option maxRecDepth 100000 in
theorem pts_works : pts (bl ⟨#[97, 255]⟩) = [97, 1114367] := by
  have h : pts [97, 255] = [97, 1114367] := by
    unfold pts
    rw [sfx_cons (by simp), sfx_cons (by simp [show dw [97, 255] = 1 from by decide]), ]
    simp only [show dw [97, 255] = 1 from by decide, List.drop_succ_cons, List.drop_zero, show dw [255] = 1 from by decide]
    rw [sfx_nil]
    decide
  exact h
set_option maxHeartbeats 4000000 in
set_option maxRecDepth 1000000 in
theorem works_any (w : World) (hE : HE w) :
    Calls Tryd.prog 28 #[] w fun e w' => e = .returned (.bool true) ∧ Below w.heap.size w w' := by
  have cO := of_any ⟨#[97, 255]⟩ w (by decide) (Nat.le_trans (sfx_len _) (by decide))
  rw [pts_works] at cO
  have cO2 : Calls Tryd.prog 25 #[.string ⟨#[97, 255]⟩] w fun e w' => ∃ (x : Nat) (c : Nat), e = .returned (.slice (some ⟨x, 0, none⟩) 2 c) ∧ w'.cell? ⟨x, 0, none⟩ = some (.int .i32 97) ∧ w'.cell? ⟨x, 1, none⟩ = some (.int .i32 1114367) ∧ x < w'.heap.size ∧ Below w.heap.size w w' := by
    refine cO.mono ?_
    rintro e w' ⟨v, rfl, hr, hb⟩
    rcases hr.2 with ⟨rfl, hn⟩ | ⟨g, cap, cur, rfl, hg, hh, hnc, hm, hcs, ht⟩
    · simp at hn
    · refine ⟨g, cap, rfl, ?_, ?_, (Array.getElem?_eq_some_iff.1 hh).1, hb⟩
      · exact World.ownsRow.cells hr (g := g) rfl 0 (.int .i32 97) rfl
      · exact World.ownsRow.cells hr (g := g) rfl 1 (.int .i32 1114367) rfl
  have cT : ∀ W : World, Calls Tryd.prog 31 #[.slice (some ⟨W.heap.size, 0, none⟩) 2 2] (W.alloc (.cells #[.int .i32 97, .int .i32 55296] 21)) fun e w' => e = .returned (.tuple #[.string ⟨#[]⟩, flt 8 0 1]) ∧ Below W.heap.size W w' := fun W => by
    have := text_some (W.alloc (.cells #[.int .i32 97, .int .i32 55296] 21)) ⟨W.heap.size, 0, none⟩ 2 2 [97, 55296] rfl (by decide) (by simp) (by decide) (fun j u hj => by
      have ea : (⟨W.heap.size, 0, none⟩ : Addr).add j = ⟨W.heap.size, j, none⟩ := by unfold Addr.add; split <;> simp_all
      rw [ea, cell_of_row _ _ _ _ _ _ (heap_alloc_new W (.cells #[.int .i32 97, .int .i32 55296] 21))]
      rcases j with _ | _ | j
      · cases hj; rfl
      · cases hj; rfl
      · simp at hj)
    refine this.mono ?_
    rintro e w' ⟨h, hb⟩
    refine ⟨?_, ((Below.refl _ W).alloc (Nat.le_refl _) _).trans (hb.mono (by simp))⟩
    rcases h with ⟨h, _⟩ | ⟨k, x, hk, hp, hall, rfl⟩
    · exact absurd (h 55296 (by simp)) (by decide)
    · rcases k with _ | _ | k
      · cases hk; exact absurd hp (by decide)
      · rfl
      · simp at hk
  clear cO
  have hE0 := hE
  unfold HE at hE0
  go_enter Tryd.func28, Tryd.ntmps28
  go_wp2_with (first | (go_at_call 25; refine cO2.mono ?_; rintro e w1 ⟨x, c, rfl, k0, k1, hlt, hb1⟩))
  refine (cT w1).mono ?_
  rintro e w2 ⟨rfl, hb2⟩
  have k0' := (hb2.cell (p := ⟨x, 0, none⟩) hlt).trans k0
  have k1' := (hb2.cell (p := ⟨x, 1, none⟩) hlt).trans k1
  have hEw := (hE.below hb1 (Nat.le_refl _)).below hb2 (Nat.le_refl _)
  have cA := at_fault 8 0 1 w2 (by decide) (by decide) hEw
  have hb12 := hb1.trans (hb2.mono hb1.size)
  clear k0 k1 hE0 hE cO2 cT
  go_wp2_with (first | (go_at_call 33; refine cA.mono ?_; rintro e w3 ⟨rfl, hb3⟩))
  go_ret
  exact ⟨rfl, hb12.trans (hb3.mono hb12.size)⟩
end Go.Proofs.YtbkimhbpcmbflaaDoor.C
set_option linter.unusedVariables false
set_option linter.unusedSimpArgs false
namespace Go.Proofs.YtbkimhbpcmbflaaDoor.C
open Go Go.RowKit Go.Proofs.YtbkimhbpcmbflaaDoor.M Go.Proofs.YtbkimhbpcmbflaaDoor.PAll Go.Proofs.YtbkimhbpcmbflaaDoorW.PrintWords
theorem bt_eq {s : ByteArray} {p : Nat} (h : p < s.size) : bt s (p : Int) = (b0 ((bl s).drop p) : Nat) := by
  unfold bt
  rw [Int.toNat_natCast, dif_pos h, byte_at h]
theorem b0_drop (l : List UInt8) (p j : Nat) : b0 (l.drop (p + j)) = ((l.drop p).getD j 0).toNat := by
  unfold b0
  rw [Lib.getD_dropU, Lib.getD_dropU]; rfl
theorem long_at (k : Nat) (c : Int) (h0 : 0 ≤ c) (h1 : c ≤ 255) : glossaryref02_long.f (k + 2) c =
    some (if c < 128 then (1, c) else if 192 ≤ c ∧ c < 224 then (2, c - 192) else if 224 ≤ c ∧ c < 240 then (3, c - 224) else if 240 ≤ c ∧ c < 248 then (4, c - 240) else (0, 0)) := by
  unfold glossaryref02_long.f
  simp only [glossaryref02_long.j0, glossaryref02_long.j1, ge_iff_le, gt_iff_lt]
  repeat' split
  all_goals first | (exfalso; omega) | (simp at *; done) | (simp at *; omega) | (rw [w64 (by omega) (by omega)])
theorem char_at (v : Int) : glossaryref02_Char.f v = some (decide (0 ≤ v ∧ v < 55296 ∨ 57343 < v ∧ v ≤ 1114111)) := by
  unfold glossaryref02_Char.f
  simp only [ge_iff_le, gt_iff_lt]
  repeat' split
  all_goals first | (simp; omega) | simp [*]
theorem least_at (n : Int) : glossaryref02_least.f n = some (if n = 1 then 0 else if n = 2 then 128 else if n = 3 then 2048 else 65536) := by
  unfold glossaryref02_least.f
  repeat' split
  all_goals rfl
section
variable (s : ByteArray) (p : Nat) (hs : s.size ≤ 140737488351232)
/-- the byte j behind place p -/
def by_ (s : ByteArray) (p j : Nat) : Nat := (((bl s).drop p).getD j 0).toNat
theorem by_lt (s : ByteArray) (p j : Nat) : by_ s p j < 256 := u8_lt _
theorem bt_by {s : ByteArray} {p j : Nat} (h : p + j < s.size) : bt s ((p : Int) + (j : Int)) = (by_ s p j : Nat) := by
  have := bt_eq (s := s) (p := p + j) h
  rw [b0_drop] at this
  rw [← Int.natCast_add]
  exact this
include hs in
theorem nx_step (k j : Nat) (n : Int) (v : Int) (hj : (j : Int) < n) (hp : p + j < s.size) (hv0 : -1000000 ≤ v) (hv1 : v ≤ 1000000000000) :
    glossaryref02_Next.l0 (k + 1) s p n v true j = glossaryref02_Next.l0 k s p n (v * 64 + (by_ s p j : Nat) - 128) (decide (128 ≤ by_ s p j ∧ by_ s p j < 192)) ((j + 1 : Nat) : Int) := by
  have hb := by_lt s p j
  have hbt := bt_by hp
  have e1 : wrap64 ((p : Int) + j) = (p : Int) + j := w64 (by omega) (by omega)
  simp only [glossaryref02_Next.l0]
  rw [if_pos hj, if_pos trivial, e1, if_pos (by omega), if_pos (by omega), hbt]
  rw [w64 (x := ((by_ s p j : Nat) : Int)) (by omega) (by omega), w64 (x := v * 64) (by omega) (by omega), w64 (x := v * 64 + _) (by omega) (by omega), w64 (x := v * 64 + _ - 128) (by omega) (by omega), w64 (x := (j : Int) + 1) (by omega) (by omega)]
  have e2 : ((j + 1 : Nat) : Int) = (j : Int) + 1 := by omega
  rw [e2]
  by_cases h : 128 ≤ by_ s p j
  · rw [if_pos (by omega)]
    have ed : decide (((by_ s p j : Nat) : Int) < 192) = decide (128 ≤ by_ s p j ∧ by_ s p j < 192) := by
      rw [decide_eq_decide]; omega
    rw [ed]
  · rw [if_neg (by omega), decide_eq_false (p := 128 ≤ by_ s p j ∧ by_ s p j < 192) (by omega)]
theorem nx_end (k : Nat) (j n v : Int) (ok : Bool) (h : n ≤ j ∨ ok = false) : glossaryref02_Next.l0 (k + 1) s p n v ok j = glossaryref02_Next.j3 k s p n v ok := by
  simp only [glossaryref02_Next.l0]
  by_cases hj : j < n
  · rw [if_pos hj]
    have : ok = false := by rcases h with h | h; omega; exact h
    rw [this]; simp
  · rw [if_neg hj]
theorem nx_bad (k : Nat) (n v : Int) (hp : p < s.size) (ok : Bool) (h : ok = true → v < (if n = 1 then 0 else if n = 2 then 128 else if n = 3 then 2048 else 65536) ∨ ¬ (0 ≤ v ∧ v < 55296 ∨ 57343 < v ∧ v ≤ 1114111)) :
    glossaryref02_Next.j3 (k + 1) s p n v ok = some (((1114112 + by_ s p 0 : Nat) : Int), 1) := by
  have hb := by_lt s p 0
  have hbt : bt s (p : Int) = (by_ s p 0 : Nat) := by have := bt_by (s := s) (p := p) (j := 0) (by omega); simpa using this
  have e : wrap32 (wrap64 (1114112 + wrap64 (bt s (p : Int)))) = ((1114112 + by_ s p 0 : Nat) : Int) := by
    rw [hbt, w64 (x := ((by_ s p 0 : Nat) : Int)) (by omega) (by omega), w64 (by omega) (by omega), w32 (by omega) (by omega)]
    omega
  simp only [glossaryref02_Next.j3, least_at, char_at, Option.bind_some, e]
  rw [if_pos (show (0 : Int) ≤ p by omega), if_pos (show (p : Int) < s.size by omega)]
  cases ok with
  | false => simp
  | true =>
    rw [if_pos rfl]
    by_cases hv : v < (if n = 1 then 0 else if n = 2 then 128 else if n = 3 then 2048 else 65536)
    · rw [if_pos hv]
    · rw [if_neg hv]
      rcases h rfl with h | h
      · exact absurd h hv
      · rw [decide_eq_false h]; simp
theorem nx_good (k : Nat) (n v : Int) (h1 : ¬ v < (if n = 1 then 0 else if n = 2 then 128 else if n = 3 then 2048 else 65536)) (h2 : 0 ≤ v ∧ v < 55296 ∨ 57343 < v ∧ v ≤ 1114111) :
    glossaryref02_Next.j3 (k + 1) s p n v true = some (v, n) := by
  simp only [glossaryref02_Next.j3, least_at, char_at, Option.bind_some]
  rw [if_pos trivial, if_neg h1, decide_eq_true h2, if_pos rfl, w32 (by omega) (by omega)]
end
/-- the decoder, in the bytes behind a place -/
theorem dec_by (s : ByteArray) (p : Nat) : (dc ((bl s).drop p), dw ((bl s).drop p)) = Lib.decodeN (s.size - p) (by_ s p 0) (by_ s p 1) (by_ s p 2) (by_ s p 3) := by
  have := Lib.decodeL_N ((bl s).drop p)
  unfold dc dw
  rw [this, List.length_drop, bl_len]
  rfl
section
variable (s : ByteArray) (p : Nat) (hs : s.size ≤ 140737488351232) (hp : p < s.size)
def ans (s : ByteArray) (p x n : Nat) (c : Prop) [Decidable c] : Option (Int × Int) := some (if c then ((x : Int), (n : Int)) else (((1114112 + by_ s p 0 : Nat) : Int), 1))
theorem ans_yes {x n : Nat} {c : Prop} [Decidable c] (h : c) : ans s p x n c = some ((x : Int), (n : Int)) := by simp [ans, h]
theorem ans_no {x n : Nat} {c : Prop} [Decidable c] (h : ¬ c) : ans s p x n c = some (((1114112 + by_ s p 0 : Nat) : Int), 1) := by simp [ans, h]
theorem nx1 (k : Nat) (q : by_ s p 0 < 128) : glossaryref02_Next.l0 (k + 9 + 1) s p 1 (by_ s p 0 : Nat) true ((1 : Nat) : Int) = ans s p (by_ s p 0) 1 True := by
  rw [ans_yes s p trivial, nx_end s p (k + 9) _ _ _ _ (.inl (by omega)), nx_good s p (k + 8) _ _ (by rw [if_pos rfl]; omega) (by omega)]
  rfl
def x2 (a b : Nat) : Nat := a % 32 * 64 + b % 64
include hs hp in
theorem nx2 (k : Nat) (q : 192 ≤ by_ s p 0 ∧ by_ s p 0 < 224) : glossaryref02_Next.l0 (k + 9 + 1) s p 2 ((by_ s p 0 : Nat) - 192) (decide (2 ≤ s.size - p)) ((1 : Nat) : Int) =
    ans s p (x2 (by_ s p 0) (by_ s p 1)) 2 (2 ≤ s.size - p ∧ (128 ≤ by_ s p 1 ∧ by_ s p 1 < 192) ∧ 128 ≤ x2 (by_ s p 0) (by_ s p 1)) := by
  have hb1 := by_lt s p 1
  by_cases z : 2 ≤ s.size - p
  · rw [decide_eq_true z, nx_step s p hs (k + 9) 1 _ _ (by omega) (by omega) (by omega) (by omega), nx_end s p (k + 8) _ _ _ _ (.inl (by omega))]
    by_cases y : 128 ≤ by_ s p 1 ∧ by_ s p 1 < 192
    · rw [decide_eq_true y]
      have e : ((by_ s p 0 : Nat) : Int) - 192 = ((by_ s p 0 % 32 : Nat) : Int) := by omega
      have e2 : ((by_ s p 0 : Nat) - 192 : Int) * 64 + ((by_ s p 1 : Nat) : Int) - 128 = ((x2 (by_ s p 0) (by_ s p 1) : Nat) : Int) := by unfold x2; omega
      rw [e2]
      have hx : x2 (by_ s p 0) (by_ s p 1) < 2048 := by unfold x2; omega
      by_cases x : 128 ≤ x2 (by_ s p 0) (by_ s p 1)
      · rw [ans_yes s p ⟨z, y, x⟩, nx_good s p (k + 7) _ _ (by simp; omega) (by omega)]
        rfl
      · rw [ans_no s p (fun h => x h.2.2), nx_bad s p (k + 7) _ _ hp _ (fun _ => .inl (by simp; omega))]
    · rw [decide_eq_false y, ans_no s p (fun h => y h.2.1), nx_bad s p (k + 7) _ _ hp _ (fun h => by cases h)]
  · rw [decide_eq_false z, ans_no s p (fun h => z h.1), nx_end s p (k + 9) _ _ _ _ (.inr rfl), nx_bad s p (k + 8) _ _ hp _ (fun h => by cases h)]
def x3 (a b c : Nat) : Nat := a % 16 * 4096 + b % 64 * 64 + c % 64
def chr (x : Nat) : Prop := x < 55296 ∨ 57344 ≤ x ∧ x ≤ 1114111
instance (x : Nat) : Decidable (chr x) := inferInstanceAs (Decidable (_ ∨ _))
include hs hp in
theorem nx3 (k : Nat) (q : 224 ≤ by_ s p 0 ∧ by_ s p 0 < 240) : glossaryref02_Next.l0 (k + 9 + 1) s p 3 ((by_ s p 0 : Nat) - 224) (decide (3 ≤ s.size - p)) ((1 : Nat) : Int) =
    ans s p (x3 (by_ s p 0) (by_ s p 1) (by_ s p 2)) 3 (3 ≤ s.size - p ∧ (128 ≤ by_ s p 1 ∧ by_ s p 1 < 192) ∧ (128 ≤ by_ s p 2 ∧ by_ s p 2 < 192) ∧ 2048 ≤ x3 (by_ s p 0) (by_ s p 1) (by_ s p 2) ∧ chr (x3 (by_ s p 0) (by_ s p 1) (by_ s p 2))) := by
  have hb1 := by_lt s p 1
  have hb2 := by_lt s p 2
  by_cases z : 3 ≤ s.size - p
  · rw [decide_eq_true z, nx_step s p hs (k + 9) 1 _ _ (by omega) (by omega) (by omega) (by omega)]
    by_cases y : 128 ≤ by_ s p 1 ∧ by_ s p 1 < 192
    · rw [decide_eq_true y, nx_step s p hs (k + 8) 2 _ _ (by omega) (by omega) (by omega) (by omega), nx_end s p (k + 7) _ _ _ _ (.inl (by omega))]
      by_cases y2 : 128 ≤ by_ s p 2 ∧ by_ s p 2 < 192
      · rw [decide_eq_true y2]
        have e2 : (((by_ s p 0 : Nat) - 224 : Int) * 64 + ((by_ s p 1 : Nat) : Int) - 128) * 64 + ((by_ s p 2 : Nat) : Int) - 128 = ((x3 (by_ s p 0) (by_ s p 1) (by_ s p 2) : Nat) : Int) := by unfold x3; omega
        rw [e2]
        by_cases x : 2048 ≤ x3 (by_ s p 0) (by_ s p 1) (by_ s p 2) ∧ chr (x3 (by_ s p 0) (by_ s p 1) (by_ s p 2))
        · rw [ans_yes s p ⟨z, y, y2, x⟩, nx_good s p (k + 6) _ _ (by simp; omega) (by have := x.2; unfold chr at this; omega)]
          rfl
        · rw [ans_no s p (fun h => x h.2.2.2), nx_bad s p (k + 6) _ _ hp _ (fun _ => by unfold chr at x; simp; omega)]
      · rw [decide_eq_false y2, ans_no s p (fun h => y2 h.2.2.1), nx_bad s p (k + 6) _ _ hp _ (fun h => by cases h)]
    · rw [decide_eq_false y, ans_no s p (fun h => y h.2.1), nx_end s p (k + 8) _ _ _ _ (.inr rfl), nx_bad s p (k + 7) _ _ hp _ (fun h => by cases h)]
  · rw [decide_eq_false z, ans_no s p (fun h => z h.1), nx_end s p (k + 9) _ _ _ _ (.inr rfl), nx_bad s p (k + 8) _ _ hp _ (fun h => by cases h)]
def x4 (a b c d : Nat) : Nat := a % 8 * 262144 + b % 64 * 4096 + c % 64 * 64 + d % 64
include hs hp in
theorem nx4 (k : Nat) (q : 240 ≤ by_ s p 0 ∧ by_ s p 0 < 248) : glossaryref02_Next.l0 (k + 9 + 1) s p 4 ((by_ s p 0 : Nat) - 240) (decide (4 ≤ s.size - p)) ((1 : Nat) : Int) =
    ans s p (x4 (by_ s p 0) (by_ s p 1) (by_ s p 2) (by_ s p 3)) 4 (4 ≤ s.size - p ∧ (128 ≤ by_ s p 1 ∧ by_ s p 1 < 192) ∧ (128 ≤ by_ s p 2 ∧ by_ s p 2 < 192) ∧ (128 ≤ by_ s p 3 ∧ by_ s p 3 < 192) ∧ 65536 ≤ x4 (by_ s p 0) (by_ s p 1) (by_ s p 2) (by_ s p 3) ∧ chr (x4 (by_ s p 0) (by_ s p 1) (by_ s p 2) (by_ s p 3))) := by
  have hb1 := by_lt s p 1
  have hb2 := by_lt s p 2
  have hb3 := by_lt s p 3
  by_cases z : 4 ≤ s.size - p
  · rw [decide_eq_true z, nx_step s p hs (k + 9) 1 _ _ (by omega) (by omega) (by omega) (by omega)]
    by_cases y : 128 ≤ by_ s p 1 ∧ by_ s p 1 < 192
    · rw [decide_eq_true y, nx_step s p hs (k + 8) 2 _ _ (by omega) (by omega) (by omega) (by omega)]
      by_cases y2 : 128 ≤ by_ s p 2 ∧ by_ s p 2 < 192
      · rw [decide_eq_true y2, nx_step s p hs (k + 7) 3 _ _ (by omega) (by omega) (by omega) (by omega), nx_end s p (k + 6) _ _ _ _ (.inl (by omega))]
        by_cases y3 : 128 ≤ by_ s p 3 ∧ by_ s p 3 < 192
        · rw [decide_eq_true y3]
          have e2 : ((((by_ s p 0 : Nat) - 240 : Int) * 64 + ((by_ s p 1 : Nat) : Int) - 128) * 64 + ((by_ s p 2 : Nat) : Int) - 128) * 64 + ((by_ s p 3 : Nat) : Int) - 128 = ((x4 (by_ s p 0) (by_ s p 1) (by_ s p 2) (by_ s p 3) : Nat) : Int) := by unfold x4; omega
          rw [e2]
          by_cases x : 65536 ≤ x4 (by_ s p 0) (by_ s p 1) (by_ s p 2) (by_ s p 3) ∧ chr (x4 (by_ s p 0) (by_ s p 1) (by_ s p 2) (by_ s p 3))
          · rw [ans_yes s p ⟨z, y, y2, y3, x⟩, nx_good s p (k + 5) _ _ (by simp; omega) (by have := x.2; unfold chr at this; omega)]
            rfl
          · rw [ans_no s p (fun h => x h.2.2.2.2), nx_bad s p (k + 5) _ _ hp _ (fun _ => by unfold chr at x; simp; omega)]
        · rw [decide_eq_false y3, ans_no s p (fun h => y3 h.2.2.2.1), nx_bad s p (k + 5) _ _ hp _ (fun h => by cases h)]
      · rw [decide_eq_false y2, ans_no s p (fun h => y2 h.2.2.1), nx_end s p (k + 7) _ _ _ _ (.inr rfl), nx_bad s p (k + 6) _ _ hp _ (fun h => by cases h)]
    · rw [decide_eq_false y, ans_no s p (fun h => y h.2.1), nx_end s p (k + 8) _ _ _ _ (.inr rfl), nx_bad s p (k + 7) _ _ hp _ (fun h => by cases h)]
  · rw [decide_eq_false z, ans_no s p (fun h => z h.1), nx_end s p (k + 9) _ _ _ _ (.inr rfl), nx_bad s p (k + 8) _ _ hp _ (fun h => by cases h)]
end
theorem dN1 {n a b c d : Nat} (h : a < 128) : Lib.decodeN n a b c d = (a, 1) := by unfold Lib.decodeN; rw [if_pos h]
theorem dN2 {n a b c d : Nat} (h : 192 ≤ a ∧ a < 224) (hb : b < 256) : Lib.decodeN n a b c d = if 2 ≤ n ∧ (128 ≤ b ∧ b < 192) ∧ 128 ≤ x2 a b then (x2 a b, 2) else (65533, 1) := by
  unfold Lib.decodeN x2
  rw [if_neg (by omega)]
  by_cases q : a / 32 = 6 ∧ 1 < n ∧ b / 64 = 2
  · rw [if_pos q]
    by_cases x : a % 32 * 64 + b % 64 ≥ 128
    · rw [if_pos x, if_pos (by omega)]
    · rw [if_neg x, if_neg (by omega)]
  · rw [if_neg q, if_neg (by omega), if_neg (by omega), if_neg (by omega)]
theorem dN3 {n a b c d : Nat} (h : 224 ≤ a ∧ a < 240) (hb : b < 256) (hc : c < 256) : Lib.decodeN n a b c d = if 3 ≤ n ∧ (128 ≤ b ∧ b < 192) ∧ (128 ≤ c ∧ c < 192) ∧ 2048 ≤ x3 a b c ∧ chr (x3 a b c) then (x3 a b c, 3) else (65533, 1) := by
  unfold Lib.decodeN
  rw [if_neg (by omega), if_neg (by omega)]
  change (if _ then (if (x3 a b c ≥ 2048 ∧ chr (x3 a b c)) then (x3 a b c, 3) else (65533, 1)) else _) = _
  by_cases q : a / 16 = 14 ∧ (1 < n ∧ b / 64 = 2) ∧ 2 < n ∧ c / 64 = 2
  · rw [if_pos q]
    by_cases x : 2048 ≤ x3 a b c ∧ chr (x3 a b c)
    · rw [if_pos x, if_pos ⟨by omega, by omega, by omega, x⟩]
    · rw [if_neg x, if_neg (fun h => x h.2.2.2)]
  · rw [if_neg q, if_neg (by omega), if_neg (fun h => q (by omega))]
theorem dN4 {n a b c d : Nat} (h : 240 ≤ a ∧ a < 248) (hb : b < 256) (hc : c < 256) (hd : d < 256) : Lib.decodeN n a b c d = if 4 ≤ n ∧ (128 ≤ b ∧ b < 192) ∧ (128 ≤ c ∧ c < 192) ∧ (128 ≤ d ∧ d < 192) ∧ 65536 ≤ x4 a b c d ∧ chr (x4 a b c d) then (x4 a b c d, 4) else (65533, 1) := by
  unfold Lib.decodeN
  rw [if_neg (by omega), if_neg (by omega), if_neg (by omega)]
  change (if _ then (if (x4 a b c d ≥ 65536 ∧ chr (x4 a b c d)) then (x4 a b c d, 4) else (65533, 1)) else _) = _
  by_cases q : a / 8 = 30 ∧ (1 < n ∧ b / 64 = 2) ∧ (2 < n ∧ c / 64 = 2) ∧ 3 < n ∧ d / 64 = 2
  · rw [if_pos q]
    by_cases x : 65536 ≤ x4 a b c d ∧ chr (x4 a b c d)
    · rw [if_pos x, if_pos ⟨by omega, by omega, by omega, by omega, x⟩]
    · rw [if_neg x, if_neg (fun h => x h.2.2.2.2)]
  · rw [if_neg q, if_neg (fun h => q (by omega))]
theorem dN0 {n a b c d : Nat} (h : 128 ≤ a) (h2 : a < 192 ∨ 248 ≤ a) (ha : a < 256) : Lib.decodeN n a b c d = (65533, 1) := by
  unfold Lib.decodeN
  rw [if_neg (by omega), if_neg (by omega), if_neg (by omega), if_neg (by omega)]
/-- a point's number and width, out of the decoder's -/
def pw (s : ByteArray) (p : Nat) (D : Nat × Nat) : Option (Int × Int) := some ((((if D.1 = 65533 ∧ D.2 = 1 then 1114112 + by_ s p 0 else D.1 : Nat) : Int)), ((D.2 : Nat) : Int))
theorem pw_ans (s : ByteArray) (p x n : Nat) (c : Prop) [Decidable c] (h : c → ¬ (x = 65533 ∧ n = 1)) : ans s p x n c = pw s p (if c then (x, n) else (65533, 1)) := by
  by_cases hc : c
  · rw [ans_yes s p hc, if_pos hc]
    unfold pw
    simp only []
    rw [if_neg (h hc)]
  · rw [ans_no s p hc, if_neg hc]
    simp [pw]
theorem j0_pos (s : ByteArray) (p : Nat) (hp : p < s.size) (k : Nat) (n v : Int) (h : glossaryref02_long.f (k + 9 + 2) (by_ s p 0 : Nat) = some (n, v)) (hn : n > 0) (m : Nat) (e : n = m) (hm : m ≤ 4) (hs : s.size ≤ 140737488351232) :
    glossaryref02_Next.j0 (k + 9 + 2 + 1) s p false = glossaryref02_Next.l0 (k + 9 + 1) s p n v (decide (m ≤ s.size - p)) ((1 : Nat) : Int) := by
  have hb0 := by_lt s p 0
  have hbt : bt s (p : Int) = (by_ s p 0 : Nat) := by have := bt_by (s := s) (p := p) (j := 0) (by omega); simpa using this
  simp only [glossaryref02_Next.j0]
  rw [if_neg (by simp), if_pos (by omega), if_pos (by omega), hbt, w64 (x := ((by_ s p 0 : Nat) : Int)) (by omega) (by omega), h]
  show (if n > 0 then glossaryref02_Next.j1 (k + 9 + 2) s p n v (decide (wrap64 ((p : Int) + n) ≤ (s.size : Int))) else glossaryref02_Next.j1 (k + 9 + 2) s p n v false) = _
  rw [if_pos hn]
  have e2 : decide (wrap64 ((p : Int) + n) ≤ (s.size : Int)) = decide (m ≤ s.size - p) := by
    rw [decide_eq_decide, e, w64 (by omega) (by omega)]
    omega
  rw [e2]
  simp [glossaryref02_Next.j1]
theorem j0_zero (s : ByteArray) (p : Nat) (hp : p < s.size) (k : Nat) (v : Int) (h : glossaryref02_long.f (k + 9 + 2) (by_ s p 0 : Nat) = some (0, v)) :
    glossaryref02_Next.j0 (k + 9 + 2 + 1) s p false = glossaryref02_Next.l0 (k + 9 + 1) s p 0 v false ((1 : Nat) : Int) := by
  have hb0 := by_lt s p 0
  have hbt : bt s (p : Int) = (by_ s p 0 : Nat) := by have := bt_by (s := s) (p := p) (j := 0) (by omega); simpa using this
  simp only [glossaryref02_Next.j0]
  rw [if_neg (by simp), if_pos (by omega), if_pos (by omega), hbt, w64 (x := ((by_ s p 0 : Nat) : Int)) (by omega) (by omega), h]
  show (if (0 : Int) > 0 then glossaryref02_Next.j1 (k + 9 + 2) s p 0 v (decide (wrap64 ((p : Int) + 0) ≤ (s.size : Int))) else glossaryref02_Next.j1 (k + 9 + 2) s p 0 v false) = _
  rw [if_neg (by omega)]
  simp [glossaryref02_Next.j1]
theorem next_ref_in (s : ByteArray) (hs : s.size ≤ 140737488351232) (p : Nat) (hp : p < s.size) (k : Nat) : glossaryref02_Next.j0 (k + 9 + 2 + 1) s p false = pw s p (Lib.decodeN (s.size - p) (by_ s p 0) (by_ s p 1) (by_ s p 2) (by_ s p 3)) := by
  have hb0 := by_lt s p 0
  have hb1 := by_lt s p 1
  have hb2 := by_lt s p 2
  have hb3 := by_lt s p 3
  have hl := long_at (k + 9) ((by_ s p 0 : Nat) : Int) (by omega) (by omega)
  by_cases q1 : by_ s p 0 < 128
  · rw [if_pos (by omega)] at hl
    rw [j0_pos s p hp k _ _ hl (by omega) 1 rfl (by omega) hs, decide_eq_true (show 1 ≤ s.size - p by omega), nx1 s p k q1, pw_ans s p _ _ _ (fun _ => by omega), if_pos trivial, dN1 q1]
  · rw [if_neg (by omega)] at hl
    by_cases q2 : 192 ≤ by_ s p 0 ∧ by_ s p 0 < 224
    · rw [if_pos (by omega)] at hl
      rw [j0_pos s p hp k _ _ hl (by omega) 2 rfl (by omega) hs, nx2 s p hs hp k q2, pw_ans s p _ _ _ (fun _ => by omega), dN2 q2 hb1]
    · rw [if_neg (by omega)] at hl
      by_cases q3 : 224 ≤ by_ s p 0 ∧ by_ s p 0 < 240
      · rw [if_pos (by omega)] at hl
        rw [j0_pos s p hp k _ _ hl (by omega) 3 rfl (by omega) hs, nx3 s p hs hp k q3, pw_ans s p _ _ _ (fun _ => by omega), dN3 q3 hb1 hb2]
      · rw [if_neg (by omega)] at hl
        by_cases q4 : 240 ≤ by_ s p 0 ∧ by_ s p 0 < 248
        · rw [if_pos (by omega)] at hl
          rw [j0_pos s p hp k _ _ hl (by omega) 4 rfl (by omega) hs, nx4 s p hs hp k q4, pw_ans s p _ _ _ (fun _ => by omega), dN4 q4 hb1 hb2 hb3]
        · rw [if_neg (by omega)] at hl
          rw [j0_zero s p hp k _ hl, dN0 (by omega) (by omega) hb0, nx_end s p (k + 9) _ _ _ _ (.inr rfl), nx_bad s p (k + 8) _ _ hp _ (fun h => by cases h)]
          simp [pw]
theorem next_ref (s : ByteArray) (hs : s.size ≤ 140737488351232) (a : Int) (k : Nat) : glossaryref02_Next.f (k + 12) s a = some (nextP (bl s) a) := by
  unfold nextP glossaryref02_Next.f
  rw [bl_len]
  by_cases h1 : a < 0
  · rw [if_pos h1, if_pos (.inl h1)]; simp [glossaryref02_Next.j0]
  · rw [if_neg h1]
    by_cases h2 : (s.size : Int) ≤ a
    · rw [if_pos (.inr h2), decide_eq_true (show a ≥ (s.size : Int) from h2)]
      simp [glossaryref02_Next.j0]
    · rw [if_neg (by omega), decide_eq_false (show ¬ a ≥ (s.size : Int) by omega)]
      obtain ⟨p, rfl⟩ : ∃ p : Nat, a = p := ⟨a.toNat, by omega⟩
      rw [show k + 12 = k + 9 + 2 + 1 from rfl, next_ref_in s hs p (by omega) k, ← dec_by, Int.toNat_natCast]
      unfold pw pt ill b0 by_
      simp
end Go.Proofs.YtbkimhbpcmbflaaDoor.C
set_option linter.unusedVariables false
set_option linter.unusedSimpArgs false
namespace Go.Proofs.YtbkimhbpcmbflaaDoor.C
open Go Go.RowKit Go.Proofs.YtbkimhbpcmbflaaDoor.M Go.Proofs.YtbkimhbpcmbflaaDoor.E Go.Proofs.YtbkimhbpcmbflaaDoor.PAll Go.Proofs.YtbkimhbpcmbflaaDoorW.PrintWords
theorem cell_lt {w : World} {b o : Nat} {v : Value} (h : w.cell? ⟨b, o, none⟩ = some v) : b < w.heap.size := by
  rcases Nat.lt_or_ge b w.heap.size with h' | h'
  · exact h'
  · simp [World.cell?, Array.getElem?_eq_none h'] at h
theorem tabs_below {w w' : World} {g3 g4 B : Nat} (h : Lib.Utf8Tabs g3 g4 w) (hb : Below B w w') (hB : w.heap.size ≤ B) : Lib.Utf8Tabs g3 g4 w' := by
  have l3 := cell_lt (h.1 0 (by omega))
  have l4 := cell_lt (h.2 0 (by omega)).1
  exact ⟨fun c hc => (hb.cell (p := ⟨g3, c, none⟩) (by show g3 < B; omega)).trans (h.1 c hc), fun i hi => ⟨(hb.cell (p := ⟨g4, 2 * i, none⟩) (by show g4 < B; omega)).trans (h.2 i hi).1, (hb.cell (p := ⟨g4, 2 * i + 1, none⟩) (by show g4 < B; omega)).trans (h.2 i hi).2⟩⟩
set_option maxHeartbeats 4000000 in
set_option maxRecDepth 1000000 in
theorem law_PointsNext (w : World) (hT : Lib.Utf8Tabs 0 1 w) (hE : HE w) (s : ByteArray) (hs : s.size ≤ 140737488351232) (a : Int) (ha : (Lit.int .i64 a).wf = true) :
    Calls Tryd.prog 12 #[.string s, .int .i64 a] w fun e w' => e = .returned (.bool true) ∧ Below w.heap.size w w' := by
  have c1 := fun W => glossaryref02_Next.calls 12 s a (nextP (bl s) a).1 (nextP (bl s) a).2 W (next_ref s hs a 0)
  have c2 := fun W (h : Lib.Utf8Tabs 0 1 W) => next_any s a W h hs
  generalize nextP (bl s) a = z at c1 c2
  obtain ⟨z1, z2⟩ := z
  go_enter Tryd.func12, Tryd.ntmps12
  go_wp2_with (first | (go_at_call 48; refine (c1 _).mono ?_; rintro e w1 ⟨rfl, hb1⟩))
  have hT1 : Lib.Utf8Tabs 0 1 w1 := tabs_below hT hb1.below (Nat.le_refl _)
  go_wp2_with (first | (go_at_call 49; refine (c2 _ hT1).mono ?_; rintro e w2 ⟨rfl, hb2⟩))
  have hE2 : HE w2 := (hE.below hb1.below (Nat.le_refl _)).below hb2 (Nat.le_refl _)
  go_wp2_with (first | (go_at_call 28; refine (works_any _ hE2).mono ?_; rintro e w3 ⟨rfl, hb3⟩))
  all_goals go_ret
  exact ⟨rfl, (hb1.below.trans (hb2.mono hb1.below.size)).trans (hb3.mono (hb1.below.trans (hb2.mono hb1.below.size)).size)⟩
end Go.Proofs.YtbkimhbpcmbflaaDoor.C
set_option linter.unusedVariables false
set_option linter.unusedSimpArgs false
namespace Go.Proofs.YtbkimhbpcmbflaaDoor.C
open Go Go.RowKit Go.Proofs.YtbkimhbpcmbflaaDoor.M Go.Proofs.YtbkimhbpcmbflaaDoor.E Go.Proofs.YtbkimhbpcmbflaaDoor.PAll Go.Proofs.YtbkimhbpcmbflaaDoorW.PrintWords
theorem C_of {w : World} {B : Nat} {k : IntKind} {A : Option Addr} {xs : List Int} (h : Rd w B k A xs) (hl : xs.length ≤ 9223372036854775807) : (Kd.int k).C w A xs.length xs := by
  refine ⟨rfl, hl, fun hp => ?_⟩
  rcases h with rfl | ⟨x, rfl, hb, hc⟩
  · simp at hp
  · refine ⟨x, rfl, fun j p hj => ⟨[.int k p], rfl, rfl, fun i u hi => ?_⟩⟩
    rcases i with _ | i
    · cases hi
      have := hc j p hj
      simpa [Kd.int, Kd.scalar] using this
    · simp at hi
theorem Rd_of {w : World} {B : Nat} {k : IntKind} {A : Option Addr} {xs : List Int} (h : (Kd.int k).C w A xs.length xs) (hb : ∀ x, A = some x → x.block < B) : Rd w B k A xs := by
  obtain ⟨_, _, h3⟩ := h
  rcases Nat.eq_zero_or_pos xs.length with hz | hp
  · exact .inl (List.eq_nil_of_length_eq_zero hz)
  · obtain ⟨x, rfl, hc⟩ := h3 hp
    refine .inr ⟨x, rfl, hb x rfl, fun j u hj => ?_⟩
    obtain ⟨c, hcl, hcc, hcell⟩ := hc j u hj
    have e : c = [.int k u] := hcc
    subst e
    have := hcell 0 _ rfl
    simpa [Kd.int, Kd.scalar] using this
/-- what a printed contract hands back, as a row that is read -/
theorem R_rd {w : World} {e base : Nat} {ok : Nat → Prop} {k : IntKind} {v : Value} {xs : List Int} (h : (Kd.int k).R e w base ok v xs) : ∃ A c, v = .slice A xs.length c ∧ xs.length ≤ c ∧ Rd w w.heap.size k A xs := by
  obtain ⟨A, c, rfl, hl, hC⟩ := Kd.R_reads h
  refine ⟨A, c, rfl, hl, ?_⟩
  rcases Nat.eq_zero_or_pos xs.length with hz | hp
  · exact .inl (List.eq_nil_of_length_eq_zero hz)
  · obtain ⟨g, cap, he, hb, hlt, _⟩ := Kd.R_form h hp
    injection he with he _ _
    exact Rd_of hC (fun x hx => by rw [he] at hx; injection hx with hx; rw [← hx]; exact hlt)
/-- a slice of whole numbers, as it comes in -/
def IsRow (k : IntKind) (w : World) (a : Option Addr) (len cap : Nat) (zs : List Int) : Prop :=
  (a = none ∧ len = 0 ∧ cap = 0 ∧ zs = []) ∨
  ∃ x, a = some x ∧ (0 < cap → x.block < w.heap.size) ∧ len ≤ cap ∧ cap ≤ maxLen ∧ zs.length = cap ∧ (∀ i, i < zs.length → w.cell? (x.add i) = some (.int k (zs.getD i 0))) ∧ ∀ n ∈ zs, (Lit.int k n).wf = true
theorem cell_blk {w : World} {p : Addr} {v : Value} (h : w.cell? p = some v) : p.block < w.heap.size := by
  rcases Nat.lt_or_ge p.block w.heap.size with h' | h'
  · exact h'
  · simp [World.cell?, Array.getElem?_eq_none h'] at h
theorem IsRow.rd {k : IntKind} {w : World} {a : Option Addr} {len cap : Nat} {zs : List Int} (h : IsRow k w a len cap zs) : (zs.take len).length = len ∧ Rd w w.heap.size k a (zs.take len) ∧ len ≤ cap ∧ ∀ x ∈ zs.take len, (Lit.int k x).wf = true := by
  rcases h with ⟨rfl, rfl, rfl, rfl⟩ | ⟨x, rfl, hb, hl, hm, hz, hc, hw⟩
  · exact ⟨rfl, .inl rfl, Nat.le_refl _, by simp⟩
  · refine ⟨by rw [List.length_take]; omega, ?_, hl, fun y hy => hw y (List.mem_of_mem_take hy)⟩
    rcases Nat.eq_zero_or_pos len with h0 | h0
    · left; rw [h0]; rfl
    refine .inr ⟨x, rfl, hb (by omega), fun j u hj => ?_⟩
    rw [List.getElem?_take] at hj
    split at hj
    · have hlt := (List.getElem?_eq_some_iff.1 hj).1
      rw [hc j hlt, List.getD_eq_getElem?_getD, hj]; rfl
    · cases hj
theorem isPt_pt {t : List UInt8} (h : t ≠ []) : isPt (pt t : Nat) = true := by
  unfold isPt pt
  have h2 := d_facts h
  cases hi : ill t with
  | true =>
    have := ill_b0 h hi
    simp only [if_true]
    rw [Bool.or_eq_true]
    right
    simp; omega
  | false =>
    simp only [Bool.false_eq_true, if_false]
    rw [Bool.or_eq_true]
    left
    unfold Lib.validRune
    have := h2.2.2.2.1
    simp; omega
theorem pb_big {p : Nat} (h0 : 1114240 ≤ p) (h1 : p ≤ 1114367) : pb (p : Int) = pbytes p := by
  have hv : Lib.validRune (p : Int) = false := by unfold Lib.validRune; simp; omega
  have e : ((p : Int) - 1114112).toNat = p - 1114112 := by omega
  have h2 : 1114112 < p := by omega
  unfold pb pbytes
  rw [hv, if_neg (by simp), if_pos h2, e]
theorem pb_ok {c : Nat} (h : okc c) : pb (c : Int) = pbytes c := by
  have h' : c < 55296 ∨ (57344 ≤ c ∧ c ≤ 1114111) := h
  have hv : Lib.validRune (c : Int) = true := by unfold Lib.validRune; simp; omega
  have h2 : ¬ 1114112 < c := by omega
  unfold pb pbytes
  rw [if_pos hv, if_neg h2, enc]
theorem pb_pt {t : List UInt8} (h : t ≠ []) : pb (pt t : Nat) = pbytes (pt t) := by
  cases hi : ill t with
  | true =>
    have := ill_b0 h hi
    have e : pt t = 1114112 + b0 t := by simp [pt, hi]
    exact pb_big (by omega) (by omega)
  | false =>
    have e : pt t = dc t := by simp [pt, hi]
    rw [e]
    exact pb_ok (okc_dc h)
theorem textP_pts (l : List UInt8) : textP (pts l) = l ∧ ∀ x ∈ pts l, isPt x = true := by
  constructor
  · have := pts_bytes l
    unfold textP pts
    rw [List.flatMap_map]
    refine Eq.trans ?_ this
    clear this
    have key : ∀ ts : List (List UInt8), (∀ t ∈ ts, t ≠ []) → ts.flatMap (fun t => pb (pt t : Nat)) = ts.flatMap (fun t => pbytes (pt t)) := by
      intro ts
      induction ts with
      | nil => intro _; simp only [List.flatMap_nil]
      | cons a ts ih =>
        intro hh
        rw [List.flatMap_cons, List.flatMap_cons, pb_pt (hh a (by simp)), ih (fun t ht => hh t (by simp [ht]))]
    exact key _ (fun t ht => sfx_ne ht)
  · intro x hx
    unfold pts at hx
    obtain ⟨t, ht, e⟩ := List.mem_map.1 hx
    rw [← e]
    exact isPt_pt (sfx_ne ht)
theorem pts_range (l : List UInt8) : ∀ x ∈ pts l, -2147483648 ≤ x ∧ x ≤ 2147483647 := by
  intro x hx
  have := (textP_pts l).2 x hx
  unfold isPt Lib.validRune at this
  simp at this
  omega
theorem pts_len (l : List UInt8) : (pts l).length ≤ l.length := by
  unfold pts
  rw [List.length_map]
  exact sfx_len l
end Go.Proofs.YtbkimhbpcmbflaaDoor.C
set_option linter.unusedVariables false
set_option linter.unusedSimpArgs false
namespace Go.Proofs.YtbkimhbpcmbflaaDoor.C
open Go Go.RowKit Go.Proofs.YtbkimhbpcmbflaaDoor.M Go.Proofs.YtbkimhbpcmbflaaDoor.E Go.Proofs.YtbkimhbpcmbflaaDoor.PAll Go.Proofs.YtbkimhbpcmbflaaDoorW.PrintWords
theorem rd_nat (xs : List Int) (i : Nat) : rd xs (i : Int) = xs.getD i 0 := by unfold rd; rw [Int.toNat_natCast]
theorem rd_some {xs : List Int} {i : Nat} {u : Int} (h : xs[i]? = some u) : rd xs (i : Int) = u := by rw [rd_nat, List.getD_eq_getElem?_getD, h]; rfl
theorem wi (n : Nat) (h : (n : Int) + 1 ≤ 9223372036854775807) : wrap64 ((n : Int) + 1) = ((n + 1 : Nat) : Int) := by rw [w64 (by omega) (by omega)]; omega
theorem same_l0 (xs : List Int) (hl : xs.length ≤ 9223372036854775806) : ∀ m i : Nat, i + m = xs.length → glossaryref0_SameRunes.l0 (m + 1) xs xs i = some true
  | 0, i, h => by
    unfold glossaryref0_SameRunes.l0
    rw [if_neg (by omega)]
  | m + 1, i, h => by
    unfold glossaryref0_SameRunes.l0
    rw [if_pos (by omega), if_pos (by omega), if_pos (by omega), if_pos rfl, wi i (by omega)]
    exact same_l0 xs hl m (i + 1) (by omega)
theorem same_ref (xs : List Int) (hl : xs.length ≤ 9223372036854775806) : ∃ k, glossaryref0_SameRunes.f k xs xs = some true :=
  ⟨xs.length + 1, by unfold glossaryref0_SameRunes.f; rw [if_pos rfl]; exact same_l0 xs hl xs.length 0 (by omega)⟩
def marks : Nat → Int → List Int
  | 0, _ => []
  | m + 1, i => (-91000 - i) :: marks m (i + 1)
theorem marks_len : ∀ m i, (marks m i).length = m
  | 0, _ => rfl
  | m + 1, i => by simp [marks, marks_len m]
theorem marks_get : ∀ m i j, j < m → (marks m i)[j]? = some (-91000 - (i + (j : Nat)))
  | m + 1, i, 0, _ => by simp [marks]
  | m + 1, i, j + 1, h => by
    simp only [marks, List.getElem?_cons_succ]
    rw [marks_get m (i + 1) j (by omega)]
    congr 1
    omega
theorem mark_at (i : Int) (h0 : 0 ≤ i) (h1 : i < 16) : glossarykit_markRunes.f 90 i = some (-91000 - i) := by
  unfold glossarykit_markRunes.f
  have e : wrap32 (-1000 * wrap32 (wrap64 (90 + 1))) = -91000 := by decide +kernel
  rw [e, w32 (x := i) (by omega) (by omega), w32 (by omega) (by omega)]
theorem mark_some (i : Int) : ∃ t, glossarykit_markRunes.f 90 i = some t := ⟨_, rfl⟩
theorem full_l1 (k : Nat) : ∀ (m : Nat) (x3 : List Int) (i : Int), i + m = 16 → 0 ≤ i → x3.length + m < 35184372088832 → glossarykit_FullRunes.l1 (k + m + 1) x3 i = some (x3 ++ marks m i)
  | 0, x3, i, h, h0, hl => by
    unfold glossarykit_FullRunes.l1
    rw [if_neg (by omega)]
    simp [marks]
  | m + 1, x3, i, h, h0, hl => by
    unfold glossarykit_FullRunes.l1
    rw [if_pos (by omega), mark_at i h0 (by omega)]
    show (if x3.length < 35184372088832 then glossarykit_FullRunes.l1 (k + m + 1) (x3 ++ [-91000 - i]) (wrap64 (i + 1)) else none) = _
    rw [if_pos (by omega), w64 (by omega) (by omega), full_l1 k m _ (i + 1) (by omega) (by omega) (by simp; omega)]
    simp [marks]
theorem full_l0 (xs : List Int) (hl : xs.length + 16 < 35184372088832) : ∀ m i : Nat, i + m = xs.length → glossarykit_FullRunes.l0 (17 + m + 1) xs (xs.take i) i = some (xs ++ marks 16 0)
  | 0, i, h => by
    unfold glossarykit_FullRunes.l0
    rw [if_neg (by omega), List.take_of_length_le (by omega)]
    exact full_l1 0 16 xs 0 (by omega) (by omega) (by omega)
  | m + 1, i, h => by
    unfold glossarykit_FullRunes.l0
    rw [if_pos (by omega), if_pos (by omega), if_pos (by rw [List.length_take]; omega), wi i (by omega)]
    have e : xs.take i ++ [rd xs (i : Int)] = xs.take (i + 1) := by
      rw [List.take_add_one, rd_some (List.getElem?_eq_getElem (show i < xs.length by omega)), List.getElem?_eq_getElem (show i < xs.length by omega)]
      rfl
    rw [e]
    exact full_l0 xs hl m (i + 1) (by omega)
theorem full_ref (xs : List Int) (hl : xs.length + 16 < 35184372088832) : ∃ k, glossarykit_FullRunes.f k xs = some (xs ++ marks 16 0) :=
  ⟨_, by unfold glossarykit_FullRunes.f; exact full_l0 xs hl xs.length 0 (by omega)⟩
theorem kept_l0 (xs : List Int) (hl : xs.length + 16 < 35184372088832) : ∀ m i : Nat, i + m = xs.length + 16 → glossarykit_KeptFullRunes.l0 (m + 1) (xs ++ marks 16 0) xs i = some true
  | 0, i, h => by
    unfold glossarykit_KeptFullRunes.l0
    rw [if_neg (by rw [List.length_append, marks_len]; omega)]
  | m + 1, i, h => by
    unfold glossarykit_KeptFullRunes.l0
    have hlen : (xs ++ marks 16 0).length = xs.length + 16 := by rw [List.length_append, marks_len]
    rw [if_pos (by rw [hlen]; omega), w64 (x := (i : Int) - xs.length) (by omega) (by omega)]
    by_cases hi : i < xs.length
    · obtain ⟨t, ht⟩ := mark_some ((i : Int) - xs.length)
      rw [ht]
      show (if (i : Int) < xs.length then _ else _) = _
      have e : rd (xs ++ marks 16 0) (i : Int) = rd xs (i : Int) := by
        rw [rd_some (List.getElem?_eq_getElem hi), rd_some (by rw [List.getElem?_append_left hi]; exact List.getElem?_eq_getElem hi)]
      rw [if_pos (by omega), if_pos (by omega), if_pos e, wi i (by omega)]
      exact kept_l0 xs hl m (i + 1) (by omega)
    · rw [mark_at _ (by omega) (by omega)]
      show (if (i : Int) < xs.length then _ else _) = _
      have e : rd (xs ++ marks 16 0) (i : Int) = -91000 - ((i : Int) - xs.length) := by
        have := marks_get 16 0 (i - xs.length) (by omega)
        rw [rd_some (u := -91000 - (0 + ((i - xs.length : Nat) : Int))) (by rw [List.getElem?_append_right (by omega)]; exact this)]
        omega
      rw [if_neg (by omega), if_pos (by omega), if_pos e, wi i (by omega)]
      exact kept_l0 xs hl m (i + 1) (by omega)
theorem kept_ref (xs : List Int) (hl : xs.length + 16 < 35184372088832) : ∃ k, glossarykit_KeptFullRunes.f k (xs ++ marks 16 0) xs = some true :=
  ⟨_, by
    unfold glossarykit_KeptFullRunes.f
    rw [if_pos (by rw [List.length_append, marks_len, w64 (by omega) (by omega)]; rfl)]
    exact kept_l0 xs hl (xs.length + 16) 0 (by omega)⟩
def nums8 (bs : List UInt8) : List Int := bs.map fun b => (b.toNat : Int)
theorem str_nums8 (bs : List UInt8) : strOfNums (nums8 bs) = ⟨bs.toArray⟩ := by
  unfold strOfNums nums8
  rw [List.map_map]
  congr 2
  conv => rhs; rw [← List.map_id bs]
  exact List.map_congr_left fun b _ => by simp
theorem point_at (x : Int) (h0 : -2147483648 ≤ x) (h1 : x ≤ 2147483647) : glossaryref02_Point.f (wrap64 x) = some (isPt x) := by
  rw [w64 (by omega) (by omega)]
  unfold glossaryref02_Point.f
  rw [char_at]
  show (if decide (0 ≤ x ∧ x < 55296 ∨ 57343 < x ∧ x ≤ 1114111) = true then some true else if x ≥ 1114240 then some (decide (x ≤ 1114367)) else some false) = _
  unfold isPt Lib.validRune
  by_cases hv : 0 ≤ x ∧ x < 55296 ∨ 57343 < x ∧ x ≤ 1114111
  · rw [if_pos (by simpa using hv), decide_eq_true hv]; rfl
  · rw [if_neg (by simpa using hv), decide_eq_false hv]
    by_cases h : 1114240 ≤ x
    · rw [if_pos h]; simp [h]
    · rw [if_neg h]; simp [h]
theorem u8n {n : Nat} (h : n < 256) : ((UInt8.ofNat n).toNat : Int) = n := by rw [ofNat_toNat h]
theorem bytes_at (x : Int) (h : isPt x = true) : glossaryref02_Bytes.f x = some (nums8 (pb x)) := by
  unfold isPt Lib.validRune at h
  unfold glossaryref02_Bytes.f
  have hx : 0 ≤ x ∧ x ≤ 1114367 := by simp at h; omega
  have e0 : wrap64 x = x := w64 (by omega) (by omega)
  rw [e0]
  by_cases hi : x > 1114112
  · have hv : Lib.validRune x = false := by unfold Lib.validRune; simp; omega
    have h3 : 1114240 ≤ x := by simp at h; omega
    rw [if_pos hi, w64 (by omega) (by omega)]
    have e1 : (x - 1114112) % 256 = ((x - 1114112).toNat : Int) := by omega
    simp only [pb, hv, Bool.false_eq_true, if_false, nums8, List.map_cons, List.map_nil, u8n (show (x - 1114112).toNat < 256 by omega), e1]
  · rw [if_neg hi]
    obtain ⟨c, rfl⟩ : ∃ c : Nat, x = c := ⟨x.toNat, by omega⟩
    have hc : c < 55296 ∨ (57344 ≤ c ∧ c ≤ 1114111) := by simp at h; omega
    have hv : Lib.validRune (c : Int) = true := by unfold Lib.validRune; simp; omega
    have ep : pb (c : Int) = enc c := by unfold pb; rw [if_pos hv, enc]
    rw [ep, enc_eq hc]
    clear ep hv h hx e0
    by_cases h1 : c < 128
    · have g1 : (c : Int) < 128 := by omega
      rw [if_pos g1, if_pos h1]
      have e1 : (c : Int) % 256 = c := by omega
      simp only [nums8, List.map_cons, List.map_nil, u8n (show c < 256 by omega), e1]
    · have g1 : ¬ (c : Int) < 128 := by omega
      rw [if_neg g1, if_neg h1]
      by_cases h2 : c < 2048
      · have g2 : (c : Int) < 2048 := by omega
        rw [if_pos g2, if_pos h2]
        simp only [nums8, List.map_cons, List.map_nil, u8n (show 192 + c / 64 < 256 by omega), u8n (show 128 + c % 64 < 256 by omega)]
        rw [Int.tdiv_eq_ediv_of_nonneg (by omega), Int.tmod_eq_emod_of_nonneg (by omega), w64 (x := (c : Int) / 64) (by omega) (by omega), w64 (by omega) (by omega), w64 (by omega) (by omega)]
        have e1 : (192 + (c : Int) / 64) % 256 = ((192 + c / 64 : Nat) : Int) := by omega
        have e2 : (128 + (c : Int) % 64) % 256 = ((128 + c % 64 : Nat) : Int) := by omega
        rw [e1, e2]
      · have g2 : ¬ (c : Int) < 2048 := by omega
        rw [if_neg g2, if_neg h2]
        by_cases h3 : c < 65536
        · have g3 : (c : Int) < 65536 := by omega
          rw [if_pos g3, if_pos h3]
          simp only [nums8, List.map_cons, List.map_nil, u8n (show 224 + c / 4096 < 256 by omega), u8n (show 128 + c / 64 % 64 < 256 by omega), u8n (show 128 + c % 64 < 256 by omega)]
          rw [Int.tdiv_eq_ediv_of_nonneg (by omega), Int.tdiv_eq_ediv_of_nonneg (by omega), w64 (x := (c : Int) / 64) (by omega) (by omega), Int.tmod_eq_emod_of_nonneg (by omega), Int.tmod_eq_emod_of_nonneg (by omega), w64 (x := (c : Int) / 4096) (by omega) (by omega), w64 (by omega) (by omega), w64 (by omega) (by omega), w64 (by omega) (by omega)]
          have e1 : (224 + (c : Int) / 4096) % 256 = ((224 + c / 4096 : Nat) : Int) := by omega
          have e2 : (128 + (c : Int) / 64 % 64) % 256 = ((128 + c / 64 % 64 : Nat) : Int) := by omega
          have e3 : (128 + (c : Int) % 64) % 256 = ((128 + c % 64 : Nat) : Int) := by omega
          rw [e1, e2, e3]
        · have g3 : ¬ (c : Int) < 65536 := by omega
          rw [if_neg g3, if_neg h3]
          have h4 : c ≤ 1114111 := by omega
          simp only [nums8, List.map_cons, List.map_nil, u8n (show 240 + c / 262144 < 256 by omega), u8n (show 128 + c / 4096 % 64 < 256 by omega), u8n (show 128 + c / 64 % 64 < 256 by omega), u8n (show 128 + c % 64 < 256 by omega)]
          rw [Int.tdiv_eq_ediv_of_nonneg (by omega), Int.tdiv_eq_ediv_of_nonneg (by omega), Int.tdiv_eq_ediv_of_nonneg (by omega), w64 (x := (c : Int) / 64) (by omega) (by omega), w64 (x := (c : Int) / 4096) (by omega) (by omega), w64 (x := (c : Int) / 262144) (by omega) (by omega), Int.tmod_eq_emod_of_nonneg (by omega), Int.tmod_eq_emod_of_nonneg (by omega), Int.tmod_eq_emod_of_nonneg (by omega), w64 (by omega) (by omega), w64 (by omega) (by omega), w64 (by omega) (by omega), w64 (by omega) (by omega)]
          have e1 : (240 + (c : Int) / 262144) % 256 = ((240 + c / 262144 : Nat) : Int) := by omega
          have e2 : (128 + (c : Int) / 4096 % 64) % 256 = ((128 + c / 4096 % 64 : Nat) : Int) := by omega
          have e3 : (128 + (c : Int) / 64 % 64) % 256 = ((128 + c / 64 % 64 : Nat) : Int) := by omega
          have e4 : (128 + (c : Int) % 64) % 256 = ((128 + c % 64 : Nat) : Int) := by omega
          rw [e1, e2, e3, e4]
theorem text_l1 (k : Nat) (xs : List Int) (i : Int) (b : List Int) (hb : b.length ≤ 4) : ∀ (m j : Nat) (x4 : List Int), b.length = j + m → x4.length + m ≤ 140737488355328 → glossaryref02_Text.l1 (k + m + 1) xs x4 i b j = glossaryref02_Text.l0 k xs (x4 ++ b.drop j) (wrap64 (i + 1))
  | 0, j, x4, h, hl => by
    unfold glossaryref02_Text.l1
    rw [if_neg (by omega), List.drop_of_length_le (by omega), List.append_nil]
  | m + 1, j, x4, h, hl => by
    unfold glossaryref02_Text.l1
    have hj : j < b.length := by omega
    rw [if_pos (by omega), if_pos (by omega), if_pos (by omega), wi j (by omega)]
    have := text_l1 k xs i b hb m (j + 1) (x4 ++ [rd b (j : Int)]) (by omega) (by simp; omega)
    rw [show k + (m + 1) = k + m + 1 by omega, this]
    rw [rd_some (List.getElem?_eq_getElem hj), List.append_assoc, List.drop_eq_getElem_cons hj]
    rfl
theorem nums8_append (a b : List UInt8) : nums8 (a ++ b) = nums8 a ++ nums8 b := by simp [nums8]
theorem nums8_len (a : List UInt8) : (nums8 a).length = a.length := by simp [nums8]
theorem textP_snoc (a : List Int) (x : Int) : textP (a ++ [x]) = textP a ++ pb x := by simp [textP]
theorem text_step (k : Nat) (xs : List Int) (hl : xs.length ≤ 35184372087808) (i : Nat) (x : Int) (hi : xs[i]? = some x) (h0 : -2147483648 ≤ x) (h1 : x ≤ 2147483647) (hp : isPt x = true) :
    glossaryref02_Text.l0 (k + (pb x).length + 1 + 1) xs (nums8 (textP (xs.take i))) i = glossaryref02_Text.l0 k xs (nums8 (textP (xs.take (i + 1)))) ((i + 1 : Nat) : Int) := by
  have hlt : i < xs.length := (List.getElem?_eq_some_iff.1 hi).1
  have h4 := textP_len (xs.take i)
  have h5 : (xs.take i).length ≤ i := List.length_take_le _ _
  have h6 := pb_len x
  conv => lhs; unfold glossaryref02_Text.l0
  rw [if_pos (by omega), if_pos (by omega), rd_some hi, point_at x h0 h1, hp, Option.bind_some, if_pos rfl, bytes_at x hp, Option.bind_some,
    show (0 : Int) = ((0 : Nat) : Int) from rfl]
  rw [show k + (pb x).length + 1 = k + (nums8 (pb x)).length + 1 by rw [nums8_len]]
  rw [text_l1 k xs i (nums8 (pb x)) (by rw [nums8_len]; exact h6) (nums8 (pb x)).length 0 _ (by omega) (by rw [nums8_len, nums8_len]; omega), wi i (by omega), List.drop_zero, ← nums8_append]
  have e : xs.take (i + 1) = xs.take i ++ [x] := by rw [List.take_add_one, hi]; rfl
  rw [e, textP_snoc]
theorem text_walk (xs : List Int) (hl : xs.length ≤ 35184372087808) (hx : ∀ x ∈ xs, -2147483648 ≤ x ∧ x ≤ 2147483647) (r : ByteArray × Int) (p : Nat) (hp : p ≤ xs.length) (hall : ∀ y ∈ xs.take p, isPt y = true)
    (hend : ∃ k, glossaryref02_Text.l0 k xs (nums8 (textP (xs.take p))) p = some r) : ∀ m i : Nat, i + m = p → ∃ k, glossaryref02_Text.l0 k xs (nums8 (textP (xs.take i))) i = some r
  | 0, i, h => by
    obtain rfl : i = p := by omega
    exact hend
  | m + 1, i, h => by
    obtain ⟨k, hk⟩ := text_walk xs hl hx r p hp hall hend m (i + 1) (by omega)
    have hlt : i < xs.length := by omega
    have hi : xs[i]? = some xs[i] := List.getElem?_eq_getElem hlt
    have hr := hx _ (List.mem_of_getElem? hi)
    have hm : isPt xs[i] = true := hall _ (List.mem_of_getElem? (i := i) (by rw [List.getElem?_take, if_pos (by omega)]; exact hi))
    exact ⟨_, (text_step k xs hl i xs[i] hi hr.1 hr.2 hm).trans hk⟩
theorem text_ref_ok (xs : List Int) (hl : xs.length ≤ 35184372087808) (hx : ∀ x ∈ xs, -2147483648 ≤ x ∧ x ≤ 2147483647) (hall : ∀ y ∈ xs, isPt y = true) :
    ∃ k, glossaryref02_Text.f k xs = some ((⟨(textP xs).toArray⟩ : ByteArray), (-1 : Int)) := by
  have ht : xs.take xs.length = xs := List.take_of_length_le (Nat.le_refl _)
  obtain ⟨k, hk⟩ := text_walk xs hl hx (⟨(textP xs).toArray⟩, -1) xs.length (Nat.le_refl _) (by rw [ht]; exact hall) ⟨1, by
    unfold glossaryref02_Text.l0
    rw [if_neg (by omega), ht, str_nums8]⟩ xs.length 0 (by omega)
  exact ⟨k, hk⟩
theorem text_ref_bad (xs : List Int) (hl : xs.length ≤ 35184372087808) (hx : ∀ x ∈ xs, -2147483648 ≤ x ∧ x ≤ 2147483647) (p : Nat) (x : Int) (hp : xs[p]? = some x) (hbad : isPt x = false) (hall : ∀ y ∈ xs.take p, isPt y = true) :
    ∃ k, glossaryref02_Text.f k xs = some ((⟨#[]⟩ : ByteArray), (p : Int)) := by
  have hlt : p < xs.length := (List.getElem?_eq_some_iff.1 hp).1
  have hr := hx _ (List.mem_of_getElem? hp)
  obtain ⟨k, hk⟩ := text_walk xs hl hx (⟨#[]⟩, p) p (by omega) hall ⟨1, by
    unfold glossaryref02_Text.l0
    rw [if_pos (by omega), if_pos (by omega), rd_some hp, point_at x hr.1 hr.2, hbad]
    rfl⟩ p 0 (by omega)
  exact ⟨k, hk⟩
theorem pts_cons {l : List UInt8} (h : l ≠ []) : pts l = (pt l : Int) :: pts (l.drop (dw l)) := by unfold pts; rw [sfx_cons h]; rfl
theorem of_l0 (s : ByteArray) (hs : s.size < 35184372088832) : ∀ (n pos : Nat) (x3 : List Int), s.size ≤ pos + n → pos ≤ s.size → x3.length ≤ pos →
    ∃ k, glossaryref02_Of.l0 (k + 12) s x3 pos = some (x3 ++ pts ((bl s).drop pos))
  | n, pos, x3, h, hp, hx => by
    by_cases hlt : pos < s.size
    · cases n with
      | zero => omega
      | succ n =>
        have hne := bl_nonempty hlt
        have hw1 := dw_pos hne
        have hw2 := dw_len hne
        rw [List.length_drop, bl_len] at hw2
        obtain ⟨k, hk⟩ := of_l0 s hs n (pos + dw ((bl s).drop pos)) (x3 ++ [(pt ((bl s).drop pos) : Int)]) (by omega) (by omega) (by simp; omega)
        refine ⟨k + 1, ?_⟩
        show glossaryref02_Of.l0 (k + 12 + 1) s x3 pos = _
        unfold glossaryref02_Of.l0
        rw [if_pos (by omega), next_ref s (by omega) pos k]
        have en : nextP (bl s) (pos : Int) = ((pt ((bl s).drop pos) : Int), (dw ((bl s).drop pos) : Int)) := by
          unfold nextP
          rw [if_neg (by rw [bl_len]; omega), Int.toNat_natCast]
        rw [en]
        show (if x3.length < 35184372088832 then glossaryref02_Of.l0 (k + 12) s (x3 ++ [(pt ((bl s).drop pos) : Int)]) (wrap64 ((pos : Int) + (dw ((bl s).drop pos) : Int))) else none) = _
        rw [if_pos (by omega), w64 (by omega) (by omega), ← Int.natCast_add, hk, pts_cons hne, List.drop_drop]
        simp
    · refine ⟨0, ?_⟩
      show glossaryref02_Of.l0 (11 + 1) s x3 pos = _
      unfold glossaryref02_Of.l0
      rw [if_neg (by omega), List.drop_of_length_le (by rw [bl_len]; omega)]
      simp [pts, sfx_nil]
theorem of_ref (s : ByteArray) (hs : s.size < 35184372088832) : ∃ k, glossaryref02_Of.f k s = some (pts (bl s)) := by
  obtain ⟨k, hk⟩ := of_l0 s hs s.size 0 [] (by omega) (by omega) (by simp)
  exact ⟨k + 12, by unfold glossaryref02_Of.f; simpa using hk⟩
end Go.Proofs.YtbkimhbpcmbflaaDoor.C
set_option linter.unusedVariables false
set_option linter.unusedSimpArgs false
namespace Go.Proofs.YtbkimhbpcmbflaaDoor.C
open Go Go.RowKit Go.Proofs.YtbkimhbpcmbflaaDoor.M Go.Proofs.YtbkimhbpcmbflaaDoor.E Go.Proofs.YtbkimhbpcmbflaaDoor.PAll Go.Proofs.YtbkimhbpcmbflaaDoorW.PrintWords
theorem slice_to {P : Program} (t e : TypeId) {i : TypeInfo} (ht : P.underlying t = some (.slice e)) (hi : P.info? e = some i) (hsz : i.size = 1) (A : Option Addr) (n c j : Nat) (hj : j ≤ c) (W : World) :
    (Instr.slice t (.slice A n c) none (some (.int .i64 (j : Int))) none).run P W = .ok (.slice A j c) W := by
  have hel : P.elem t = e := by simp [Program.elem, ht]
  have hu : P.underlying t = some (.slice (P.elem t)) := by rw [hel]; exact ht
  have ha : (A.map fun x => x.add 0) = A := by cases A <;> simp [Addr.add]
  rw [run_slice_h W t A n c hu .i64 j (by omega) (by omega), hel]
  simp [sizeOf, typeInfo, hi, hsz, sliced, Result.andThen, ha]
theorem Tryd.info32 : (Tryd.prog.info? 21).map (fun i => (i.zero, i.size, i.bytes)) = some (some (.int .i32 0), 1, 4) := by kernel_rfl
set_option maxHeartbeats 4000000 in
set_option maxRecDepth 1000000 in
theorem lent_any (w : World) (A : Option Addr) (cap : Nat) (xs : List Int) (hl : xs.length + 16 < 35184372088832) (hR : Rd w w.heap.size .i32 A xs) (hcap : xs.length ≤ cap) :
    Calls Tryd.prog 30 #[.slice A xs.length cap] w fun e w' => ∃ A' c', e = .returned (.slice A' xs.length c') ∧ xs.length + 16 ≤ c' ∧ Rd w' w'.heap.size .i32 A' (xs ++ marks 16 0) ∧ Below w.heap.size w w' := by
  obtain ⟨k, hk⟩ := full_ref xs hl
  obtain ⟨i0, hi, hz0, hz1, hz2⟩ := info_parts Tryd.info32
  have hml : (xs ++ marks 16 0).length = xs.length + 16 := by rw [List.length_append, marks_len]
  have c1 : ∀ W : World, Rd W W.heap.size .i32 A xs → Calls Tryd.prog 80 #[.slice A xs.length cap] W fun e w' => ∃ A' m c', e = .returned (.slice A' m c') ∧ xs.length + 16 ≤ c' ∧ Rd w' w'.heap.size .i32 A' (xs ++ marks 16 0) ∧ Below W.heap.size W w' := fun W hR =>
    (glossarykit_FullRunes.calls k A cap xs _ W (C_of hR (by omega)) hcap hk).mono fun e w' ⟨v, he, hr, hb⟩ => by
      obtain ⟨A', c', rfl, hle, hrd⟩ := R_rd hr
      exact ⟨A', _, c', he, by omega, hrd, hb⟩
  have hsl : ∀ (A' : Option Addr) (m c' : Nat) (W : World), xs.length + 16 ≤ c' → (Instr.slice 22 (.slice A' m c') none (some (.int .i64 (xs.length : Int))) none).run Tryd.prog W = .ok (.slice A' xs.length c') W := fun A' m c' W h =>
    slice_to 22 21 Tryd.underlying22 hi hz1 A' m c' xs.length (by omega) W
  obtain ⟨n, hn⟩ : ∃ n, xs.length = n := ⟨_, rfl⟩
  rw [hn] at c1 hsl ⊢
  generalize xs ++ marks 16 0 = ys at c1
  clear hn hml hk
  go_enter Tryd.func30, Tryd.ntmps30
  go_wp2_with (first | (go_at_call 80; refine (c1 _ hR).mono ?_; rintro e w1 ⟨A', m, c', rfl, hc', hrd, hb1⟩; have hs1 := fun W => hsl A' m c' W hc'))
  all_goals go_ret
  exact ⟨A', c', rfl, hc', hrd, hb1⟩
set_option maxHeartbeats 4000000 in
set_option maxRecDepth 1000000 in
theorem kept_any (w : World) (A A' : Option Addr) (cap c' : Nat) (xs : List Int) (hl : xs.length + 16 < 35184372088832) (hR : Rd w w.heap.size .i32 A xs) (hR' : Rd w w.heap.size .i32 A' (xs ++ marks 16 0)) (hcap : xs.length ≤ cap) (hc' : xs.length + 16 ≤ c') :
    Calls Tryd.prog 32 #[.slice A' xs.length c', .slice A xs.length cap] w fun e w' => e = .returned (.bool true) ∧ Below w.heap.size w w' := by
  obtain ⟨k, hk⟩ := kept_ref xs hl
  obtain ⟨i0, hi, hz0, hz1, hz2⟩ := info_parts Tryd.info32
  have hml : (xs ++ marks 16 0).length = xs.length + 16 := by rw [List.length_append, marks_len]
  have c1 : ∀ W : World, Below w.heap.size w W → Calls Tryd.prog 82 #[.slice A' (xs.length + 16) c', .slice A xs.length cap] W fun e w' => e = .returned (.bool true) ∧ Below w.heap.size w w' := fun W hW => by
    have := glossarykit_KeptFullRunes.calls k A' c' (xs ++ marks 16 0) A cap xs true W (C_of (hR'.below hW (Nat.le_refl _)) (by omega)) (by omega) (C_of (hR.below hW (Nat.le_refl _)) (by omega)) hcap hk
    rw [hml] at this
    exact this.mono fun e w' ⟨he, hd⟩ => ⟨he, hW.trans (hd.below.mono hW.size)⟩
  have hsl : ∀ (W : World), (Instr.slice 22 (.slice A' xs.length c') none (some (.int .i64 ((xs.length + 16 : Nat) : Int))) none).run Tryd.prog W = .ok (.slice A' (xs.length + 16) c') W := fun W =>
    slice_to 22 21 Tryd.underlying22 hi hz1 A' xs.length c' (xs.length + 16) hc' W
  obtain ⟨n, hn⟩ : ∃ n, xs.length = n := ⟨_, rfl⟩
  rw [hn] at c1 hsl hl hc' ⊢
  have hw16 : wrap64 ((n : Int) + 16) = ((n + 16 : Nat) : Int) := by rw [w64 (by omega) (by omega)]; omega
  clear hn hml hk
  go_enter Tryd.func32, Tryd.ntmps32
  go_wp2_with (first | (go_at_call 82; refine (c1 _ (by first | exact Below.refl _ _ | exact (Below.refl _ _).drew)).mono ?_; rintro e w1 ⟨rfl, hb1⟩))
  all_goals go_ret
  exact ⟨rfl, hb1⟩
theorem first_bad : ∀ xs : List Int, (∀ x ∈ xs, isPt x = true) ∨ ∃ p x, xs[p]? = some x ∧ isPt x = false ∧ ∀ y ∈ xs.take p, isPt y = true
  | [] => .inl (by simp)
  | a :: xs => by
    cases ha : isPt a with
    | false => exact .inr ⟨0, a, rfl, ha, by simp⟩
    | true =>
      rcases first_bad xs with h | ⟨p, x, h1, h2, h3⟩
      · left; intro y hy; rcases List.mem_cons.1 hy with rfl | hy
        · exact ha
        · exact h y hy
      · right
        refine ⟨p + 1, x, h1, h2, fun y hy => ?_⟩
        rw [List.take_succ_cons] at hy
        rcases List.mem_cons.1 hy with rfl | hy
        · exact ha
        · exact h3 y hy
theorem bad_unique {xs : List Int} {p q : Nat} {x y : Int} (hp : xs[p]? = some x) (hx : isPt x = false) (hpa : ∀ y ∈ xs.take p, isPt y = true) (hq : xs[q]? = some y) (hy : isPt y = false) (hqa : ∀ y ∈ xs.take q, isPt y = true) : p = q := by
  rcases Nat.lt_trichotomy p q with h | h | h
  · have := hqa x (List.mem_of_getElem? (i := p) (by rw [List.getElem?_take, if_pos h]; exact hp))
    rw [hx] at this; cases this
  · exact h
  · have := hpa y (List.mem_of_getElem? (i := q) (by rw [List.getElem?_take, if_pos h]; exact hq))
    rw [hy] at this; cases this
theorem wf32 {x : Int} (h : (Lit.int .i32 x).wf = true) : -2147483648 ≤ x ∧ x ≤ 2147483647 := by
  simpa [Lit.wf, IntKind.min, IntKind.max, IntKind.signed, IntKind.bits] using h
set_option maxHeartbeats 4000000 in
set_option maxRecDepth 1000000 in
theorem PointsText_of (w : World) (hE : HE w) (A : Option Addr) (cap : Nat) (xs : List Int) (hl : xs.length ≤ 35184372087808) (hx : ∀ x ∈ xs, -2147483648 ≤ x ∧ x ≤ 2147483647) (hR : Rd w w.heap.size .i32 A xs) (hcap : xs.length ≤ cap) :
    Calls Tryd.prog 4 #[.slice A xs.length cap] w fun e w' => e = .returned (.bool true) ∧ Below w.heap.size w w' := by
  have cT := fun (W : World) (A' : Option Addr) (c' : Nat) (hR' : Rd W W.heap.size .i32 A' xs) => text_any W A' c' xs hl hx hR'
  have cL := fun (W : World) (hR' : Rd W W.heap.size .i32 A xs) => lent_any W A cap xs (by omega) hR' hcap
  have cK := fun (W : World) (A' : Option Addr) (c' : Nat) (h1 : Rd W W.heap.size .i32 A xs) (h2 : Rd W W.heap.size .i32 A' (xs ++ marks 16 0)) (h3 : xs.length + 16 ≤ c') => kept_any W A A' cap c' xs (by omega) h1 h2 hcap h3
  have hpre : ∀ (W : World) (A' : Option Addr), Rd W W.heap.size .i32 A' (xs ++ marks 16 0) → Rd W W.heap.size .i32 A' xs := fun W A' h => by
    rcases h with h | ⟨x, rfl, hb, hc⟩
    · have := congrArg List.length h
      rw [List.length_append, marks_len] at this
      simp at this
    · exact .inr ⟨x, rfl, hb, fun j u hj => hc j u (by rw [List.getElem?_append_left (List.getElem?_eq_some_iff.1 hj).1]; exact hj)⟩
  rcases first_bad xs with hall | ⟨p, x, hp, hbad, hpa⟩
  · obtain ⟨k, hk⟩ := text_ref_ok xs hl hx hall
    have cR := fun (W : World) (hR' : Rd W W.heap.size .i32 A xs) => glossaryref02_Text.calls k A cap xs _ _ W (C_of hR' (by omega)) hcap hk
    have cT2 := fun (W : World) (A' : Option Addr) (c' : Nat) (hR' : Rd W W.heap.size .i32 A' xs) => (cT W A' c' hR').mono (R' := fun e w' => e = .returned (.tuple #[.string ⟨(textP xs).toArray⟩, .nilIface]) ∧ Below W.heap.size W w') (fun e w' ⟨h, hb⟩ => by
      refine ⟨?_, hb⟩
      rcases h with ⟨_, h⟩ | ⟨q, y, hq, hy, _, _⟩
      · exact h
      · have := hall y (List.mem_of_getElem? hq); rw [hy] at this; cases this)
    generalize (⟨(textP xs).toArray⟩ : ByteArray) = t at cR cT2
    obtain ⟨n, hn⟩ : ∃ n, xs.length = n := ⟨_, rfl⟩
    rw [hn] at cR cT2 cL cK ⊢
    clear cT hl hx hcap hk hall hn
    go_enter Tryd.func4, Tryd.ntmps4
    go_wp2_with (first | (go_at_call 29; refine (cR _ hR).mono ?_; rintro e w1 ⟨rfl, hb1⟩))
    have hR1 := (hR.below hb1 (Nat.le_refl _)).more hb1.size
    go_wp2_with (first | (go_at_call 30; refine (cL _ hR1).mono ?_; rintro e w2 ⟨A', c', rfl, hc', hrd, hb2⟩))
    have hR2 := (hR1.below hb2 (Nat.le_refl _)).more hb2.size
    have hb12 := hb1.trans (hb2.mono hb1.size)
    go_wp2_with (first | (go_at_call 31; refine (cT2 _ _ _ (hpre _ _ hrd)).mono ?_; rintro e w3 ⟨rfl, hb3⟩))
    have hR3 := (hR2.below hb3 (Nat.le_refl _)).more hb3.size
    have hrd3 := (hrd.below hb3 (Nat.le_refl _)).more hb3.size
    have hb13 := hb12.trans (hb3.mono hb12.size)
    go_wp2_with (first | (go_at_call 32; refine (cK _ _ _ hR3 hrd3 hc').mono ?_; rintro e w4 ⟨rfl, hb4⟩))
    have hb14 := hb13.trans (hb4.mono hb13.size)
    have hE4 : HE w4 := hE.below hb14 (Nat.le_refl _)
    go_wp2_with (first | (go_at_call 28; refine (works_any _ hE4).mono ?_; rintro e w5 ⟨rfl, hb5⟩))
    all_goals go_ret
    exact ⟨rfl, hb14.trans (hb5.mono hb14.size)⟩
  · have hplt := (List.getElem?_eq_some_iff.1 hp).1
    obtain ⟨k, hk⟩ := text_ref_bad xs hl hx p x hp hbad hpa
    have cR := fun (W : World) (hR' : Rd W W.heap.size .i32 A xs) => glossaryref02_Text.calls k A cap xs _ _ W (C_of hR' (by omega)) hcap hk
    have cT2 := fun (W : World) (A' : Option Addr) (c' : Nat) (hR' : Rd W W.heap.size .i32 A' xs) => (cT W A' c' hR').mono (R' := fun e w' => e = .returned (.tuple #[.string ⟨#[]⟩, flt 8 0 (p : Nat)]) ∧ Below W.heap.size W w') (fun e w' ⟨h, hb⟩ => by
      refine ⟨?_, hb⟩
      rcases h with ⟨h, _⟩ | ⟨q, y, hq, hy, hqa, h⟩
      · have := h x (List.mem_of_getElem? hp); rw [hbad] at this; cases this
      · have e := bad_unique hp hbad hpa hq hy hqa
        rw [h, e])
    have cA := fun (W : World) (h : HE W) => at_fault 8 0 (p : Nat) W (by decide) (by decide) h
    obtain ⟨n, hn⟩ : ∃ n, xs.length = n := ⟨_, rfl⟩
    rw [hn] at cR cT2 cL cK ⊢
    clear cT hl hx hcap hk hpa hp hbad hplt hn
    go_enter Tryd.func4, Tryd.ntmps4
    go_wp2_with (first | (go_at_call 29; refine (cR _ hR).mono ?_; rintro e w1 ⟨rfl, hb1⟩))
    have hR1 := (hR.below hb1 (Nat.le_refl _)).more hb1.size
    go_wp2_with (first | (go_at_call 30; refine (cL _ hR1).mono ?_; rintro e w2 ⟨A', c', rfl, hc', hrd, hb2⟩))
    have hR2 := (hR1.below hb2 (Nat.le_refl _)).more hb2.size
    have hb12 := hb1.trans (hb2.mono hb1.size)
    go_wp2_with (first | (go_at_call 31; refine (cT2 _ _ _ (hpre _ _ hrd)).mono ?_; rintro e w3 ⟨rfl, hb3⟩))
    have hR3 := (hR2.below hb3 (Nat.le_refl _)).more hb3.size
    have hrd3 := (hrd.below hb3 (Nat.le_refl _)).more hb3.size
    have hb13 := hb12.trans (hb3.mono hb12.size)
    go_wp2_with (first | (go_at_call 32; refine (cK _ _ _ hR3 hrd3 hc').mono ?_; rintro e w4 ⟨rfl, hb4⟩))
    have hb14 := hb13.trans (hb4.mono hb13.size)
    have hE4 : HE w4 := hE.below hb14 (Nat.le_refl _)
    go_wp2_with (first | (go_at_call 33; refine (cA _ hE4).mono ?_; rintro e w5 ⟨rfl, hb5⟩))
    have hb15 := hb14.trans (hb5.mono hb14.size)
    have hE5 : HE w5 := hE.below hb15 (Nat.le_refl _)
    go_wp2_with (first | (go_at_call 28; refine (works_any _ hE5).mono ?_; rintro e w6 ⟨rfl, hb6⟩))
    all_goals go_ret
    exact ⟨rfl, hb15.trans (hb6.mono hb15.size)⟩
theorem law_PointsText (w : World) (hE : HE w) (a : Option Addr) (len cap : Nat) (zs : List Int) (h : IsRow .i32 w a len cap zs) (hy : len * 4 ≤ 140737488351232) :
    Calls Tryd.prog 4 #[.slice a len cap] w fun e w' => e = .returned (.bool true) ∧ Below w.heap.size w w' := by
  obtain ⟨hl, hR, hc, hw⟩ := h.rd
  have := PointsText_of w hE a cap (zs.take len) (by omega) (fun x hx => wf32 (hw x hx)) hR (by omega)
  rw [hl] at this
  exact this
end Go.Proofs.YtbkimhbpcmbflaaDoor.C
set_option linter.unusedVariables false
set_option linter.unusedSimpArgs false
namespace Go.Proofs.YtbkimhbpcmbflaaDoor.C
open Go Go.RowKit Go.Proofs.YtbkimhbpcmbflaaDoor.M Go.Proofs.YtbkimhbpcmbflaaDoor.E Go.Proofs.YtbkimhbpcmbflaaDoor.PAll Go.Proofs.YtbkimhbpcmbflaaDoorW.PrintWords
theorem runes_len (l : List UInt8) : (runes l).length = (sfx l).length := by simp [runes]
/-- Go's own conversion of a text into a list of runes -/
theorem runes_conv (s : ByteArray) (W : World) (h46 : (sfx (bl s)).length ≤ 70368744177664) :
    ∃ cap W', (convert 9 22 (.string s)).run Tryd.prog W = .ok (.slice (some ⟨W.heap.size, 0, none⟩) (runes (bl s)).length cap) W' ∧ Rd W' W'.heap.size .i32 (some ⟨W.heap.size, 0, none⟩) (runes (bl s)) ∧ (runes (bl s)).length ≤ cap ∧ Below W.heap.size W W' := by
  have hsz : (Conv.runesFrom s s.size 0 #[]).size = (sfx (bl s)).length := conv_runes_size s
  have hli : (Conv.runesFrom s s.size 0 #[]).toList = (runes (bl s)).map (Value.int .i32) := conv_runes s
  have hcv := run_runes_of_string (P := Tryd.prog) W 9 22 21 s Tryd.underlying9 Tryd.underlying22 Tryd.underlying21 (by omega)
  have hge := grownCap_ge W (Conv.runesFrom s s.size 0 #[]).size 0 21
  have hrl := runes_len (bl s)
  have hse : (Conv.runesFrom s s.size 0 #[]).size = (runes (bl s)).length := by omega
  rw [hse] at hcv hge
  refine ⟨_, _, hcv, ?_, by omega, ?_⟩
  · refine .inr ⟨⟨W.heap.size, 0, none⟩, rfl, by simp, fun j u hj => ?_⟩
    have ea : (⟨W.heap.size, 0, none⟩ : Addr).add j = ⟨W.heap.size, j, none⟩ := by unfold Addr.add; split <;> simp_all
    have hb := heap_alloc_new W.drew (.cells (Conv.runesFrom s s.size 0 #[] ++ Array.replicate (grownCap W (runes (bl s)).length 0 21 - (runes (bl s)).length) (.int .i32 0)) 21)
    have hd : W.drew.heap.size = W.heap.size := by simp
    rw [hd] at hb
    rw [ea, cell_of_row _ _ _ _ _ _ hb]
    have hjl := (List.getElem?_eq_some_iff.1 hj).1
    rw [Array.getElem?_append_left (by omega), ← Array.getElem?_toList, hli, List.getElem?_map, hj]
    rfl
  · exact ((Below.refl _ W).drew).alloc (by simp) _
theorem textP_enc (cs : List Nat) (h : ∀ c ∈ cs, okc c) : textP (cs.map fun (c : Nat) => (c : Int)) = cs.flatMap enc := by
  induction cs with
  | nil => rfl
  | cons c cs ih =>
    have hc : c < 55296 ∨ (57344 ≤ c ∧ c ≤ 1114111) := h c (by simp)
    have hv : Lib.validRune (c : Int) = true := by unfold Lib.validRune; simp; omega
    have ih' := ih (fun x hx => h x (by simp [hx]))
    unfold textP at ih' ⊢
    have e1 : pb (c : Int) = enc c := by unfold pb; rw [if_pos hv, enc]
    rw [List.map_cons, List.flatMap_cons, List.flatMap_cons, ih', e1]
theorem valid_nat {xs : List Int} (h : ∀ x ∈ xs, Lib.validRune x = true) : ∃ cs : List Nat, (cs.map fun (c : Nat) => (c : Int)) = xs ∧ ∀ c ∈ cs, okc c := by
  refine ⟨xs.map Int.toNat, ?_, ?_⟩
  · rw [List.map_map]
    conv => rhs; rw [← List.map_id xs]
    refine List.map_congr_left fun x hx => ?_
    have := h x hx
    unfold Lib.validRune at this
    simp at this ⊢
    omega
  · intro c hc
    obtain ⟨x, hx, e⟩ := List.mem_map.1 hc
    have := h x hx
    unfold Lib.validRune at this
    show c < 55296 ∨ (57344 ≤ c ∧ c ≤ 1114111)
    simp at this
    omega
/-- the points and the characters of a text that is made of characters -/
theorem back_row {xs : List Int} (h : ∀ x ∈ xs, Lib.validRune x = true) : pts (textP xs) = xs ∧ runes (textP xs) = xs ∧ (∀ x ∈ xs, isPt x = true) := by
  obtain ⟨cs, e, hc⟩ := valid_nat h
  have h2 := pts_flat cs hc
  have h3 := textP_enc cs hc
  refine ⟨?_, ?_, fun x hx => by unfold isPt; rw [h x hx]; rfl⟩
  · rw [← e, h3]; exact h2.1
  · rw [← e, h3]; exact h2.2
theorem bl_mk (l : List UInt8) : bl ⟨l.toArray⟩ = l := rfl
theorem runesBytes_eq : ∀ (xs : List Int) (r : ByteArray), (∀ x ∈ xs, Lib.validRune x = true) → bl (xs.foldl (fun r n => r ++ Utf8.encode n) r) = bl r ++ textP xs
  | [], r, _ => by simp [textP]
  | x :: xs, r, h => by
    rw [List.foldl_cons, runesBytes_eq xs _ (fun y hy => h y (by simp [hy]))]
    have hx := h x (by simp)
    have e : bl (r ++ Utf8.encode x) = bl r ++ bl (Utf8.encode x) := by unfold bl; simp
    rw [e, List.append_assoc]
    congr 1
    unfold textP
    have e1 : pb x = bl (Utf8.encode x) := by unfold pb; rw [if_pos hx, bl]
    rw [List.flatMap_cons, e1]
theorem ba_ext {a b : ByteArray} (h : bl a = bl b) : a = b := by
  have h' : a.data = b.data := Array.toList_inj.1 h
  cases a; cases b
  exact congrArg ByteArray.mk h'
/-- Go's own conversion of a list of characters into a text -/
theorem text_conv (W : World) (B : Nat) (A : Option Addr) (cap : Nat) (xs : List Int) (hR : Rd W B .i32 A xs) (h : ∀ x ∈ xs, Lib.validRune x = true) :
    (convert 22 9 (.slice A xs.length cap)).run Tryd.prog W = .ok (.string ⟨(textP xs).toArray⟩) W := by
  have e0 : runesBytes xs = ⟨(textP xs).toArray⟩ := ba_ext (by
    show bl (runesBytes xs) = textP xs
    unfold runesBytes
    rw [runesBytes_eq xs _ h]
    rfl)
  have key : ∀ x : Addr, (∀ j u, xs[j]? = some u → W.cell? (x.add j) = some (.int .i32 u)) → (convert 22 9 (.slice (some x) xs.length cap)).run Tryd.prog W = .ok (.string ⟨(textP xs).toArray⟩) W := fun x hc => by
    have := run_convert_runes (P := Tryd.prog) W 22 9 21 x xs.length cap xs (Nat.le_refl _) Tryd.underlying22 Tryd.underlying21 Tryd.underlying9 (fun j hj => by
      rw [hc j _ (List.getElem?_eq_getElem hj), List.getD_eq_getElem?_getD, List.getElem?_eq_getElem hj]; rfl)
    rw [List.take_of_length_le (Nat.le_refl _), e0] at this
    exact this
  rcases hR with rfl | ⟨x, rfl, hb, hc⟩
  · cases A with
    | none => exact run_convert_runes_nil (P := Tryd.prog) W 22 9 21 0 cap Tryd.underlying22 Tryd.underlying21 Tryd.underlying9
    | some x => exact key x (fun j u hj => by simp at hj)
  · exact key x hc
/-- SameRunes of two rows that hold the same -/
theorem same_any (xs : List Int) (hl : xs.length ≤ 9223372036854775806) (W : World) (A1 A2 : Option Addr) (c1 c2 : Nat) (h1 : Rd W W.heap.size .i32 A1 xs) (h2 : Rd W W.heap.size .i32 A2 xs) (hc1 : xs.length ≤ c1) (hc2 : xs.length ≤ c2) :
    Calls Tryd.prog 26 #[.slice A1 xs.length c1, .slice A2 xs.length c2] W fun e w' => e = .returned (.bool true) ∧ Below W.heap.size W w' := by
  obtain ⟨k, hk⟩ := same_ref xs hl
  exact (glossaryref0_SameRunes.calls k A1 c1 xs A2 c2 xs true W (C_of h1 (by omega)) hc1 (C_of h2 (by omega)) hc2 hk).mono fun e w' ⟨he, hd⟩ => ⟨he, hd.below⟩
set_option maxHeartbeats 4000000 in
set_option maxRecDepth 1000000 in
theorem PointsRow_of (w : World) (hE : HE w) (A : Option Addr) (cap : Nat) (xs : List Int) (hl : xs.length ≤ 35184372087808) (hx : ∀ x ∈ xs, -2147483648 ≤ x ∧ x ≤ 2147483647) (hR : Rd w w.heap.size .i32 A xs) (hcap : xs.length ≤ cap) :
    Calls Tryd.prog 6 #[.slice A xs.length cap] w fun e w' => e = .returned (.bool true) ∧ Below w.heap.size w w' := by
  have cT : Hid (∀ x ∈ xs, Lib.validRune x = true) → ∀ W, Rd W W.heap.size .i32 A xs → Calls Tryd.prog 31 #[.slice A xs.length cap] W fun e w' => e = .returned (.tuple #[.string ⟨(textP xs).toArray⟩, .nilIface]) ∧ Below W.heap.size W w' := fun h W hR' =>
    (text_any W A cap xs hl hx hR').mono fun e w' ⟨h1, hb⟩ => by
      refine ⟨?_, hb⟩
      rcases h1 with ⟨_, h1⟩ | ⟨q, y, hq, hy, _, _⟩
      · exact h1
      · have := (back_row h.out).2.2 y (List.mem_of_getElem? hq); rw [hy] at this; cases this
  have cV : Hid (∀ x ∈ xs, Lib.validRune x = true) → ∀ W, Rd W W.heap.size .i32 A xs → (convert 22 9 (.slice A xs.length cap)).run Tryd.prog W = .ok (.string ⟨(textP xs).toArray⟩) W := fun h W hR' => text_conv W _ A cap xs hR' h.out
  have ht4 := textP_len xs
  have hts : (⟨(textP xs).toArray⟩ : ByteArray).size = (textP xs).length := rfl
  have cO : Hid (∀ x ∈ xs, Lib.validRune x = true) → ∀ W, Calls Tryd.prog 25 #[.string ⟨(textP xs).toArray⟩] W fun e w' => ∃ A' c', e = .returned (.slice A' xs.length c') ∧ xs.length ≤ c' ∧ Rd w' w'.heap.size .i32 A' xs ∧ Below W.heap.size W w' := fun h W => by
    have e1 := (back_row h.out).1
    have e2 : (sfx (textP xs)).length = xs.length := by have := congrArg List.length e1; unfold pts at this; rw [List.length_map] at this; exact this
    have := of_any ⟨(textP xs).toArray⟩ W (by rw [hts]; omega) (by rw [bl_mk, e2]; omega)
    rw [bl_mk, e1] at this
    refine this.mono fun e w' ⟨v, he, hr, hb⟩ => ?_
    obtain ⟨A', c', rfl, hle, hrd⟩ := hr.reads
    exact ⟨A', c', he, hle, hrd, hb⟩
  have cX : Hid (∀ x ∈ xs, Lib.validRune x = true) → ∀ W, ∃ cap' W', (convert 9 22 (.string ⟨(textP xs).toArray⟩)).run Tryd.prog W = .ok (.slice (some ⟨W.heap.size, 0, none⟩) xs.length cap') W' ∧ Rd W' W'.heap.size .i32 (some ⟨W.heap.size, 0, none⟩) xs ∧ xs.length ≤ cap' ∧ Below W.heap.size W W' := fun h W => by
    have e1 := (back_row h.out).2.1
    have e2 : (sfx (textP xs)).length = xs.length := by have := congrArg List.length e1; rw [runes_len] at this; exact this
    have := runes_conv ⟨(textP xs).toArray⟩ W (by rw [bl_mk, e2]; omega)
    rw [bl_mk, e1] at this
    exact this
  have cS := fun (W : World) (A1 A2 : Option Addr) (c1 c2 : Nat) (h1 : Rd W W.heap.size .i32 A1 xs) (h2 : Rd W W.heap.size .i32 A2 xs) => same_any xs (by omega) W A1 A2 c1 c2 h1 h2
  have cW := works_any
  generalize (⟨(textP xs).toArray⟩ : ByteArray) = t at cT cV cO cX
  obtain ⟨n, hn⟩ : ∃ n, xs.length = n := ⟨_, rfl⟩
  rw [hn] at cT cV cO cX cS hcap ⊢
  have Hn := Lib.hid hn
  have HR := Lib.hid hR
  have Hx := Lib.hid hx
  have hn40 : n ≤ 35184372087808 := by omega
  clear hn hl hts ht4 hR hx
  go_enter Tryd.func6, Tryd.ntmps6
  go_wp2
  go_loopw [3] (fun kv wr => ∃ k : Nat, kv = .int .i64 k ∧ k ≤ n ∧ Hid (∀ x ∈ xs.take k, Lib.validRune x = true) ∧ Below w.heap.size w wr)
    (fun kv _ => n - (intOf kv).toNat)
  case atStart =>
    exact ⟨0, rfl, Nat.zero_le _, by simp [Hid], Below.refl _ _⟩
  case round =>
    obtain ⟨k, rfl, hk, hall, hbw⟩ := hrel
    by_cases hlt : k < n
    · rcases HR.out with h0 | ⟨ad, rfl, hb, hc⟩
      · have := Hn.out; rw [h0] at this; simp at this; omega
      · obtain ⟨x, hxk⟩ : ∃ x, xs[k]? = some x := ⟨_, List.getElem?_eq_getElem (show k < xs.length by have := Hn.out; omega)⟩
        have hcell : wr.cell? (ad.add k) = some (.int .i32 x) := (hbw.cell (p := ad.add k) (by rw [add_block]; exact hb)).trans (hc k x hxk)
        obtain ⟨hx1, hx2⟩ := Hx.out x (List.mem_of_getElem? hxk)
        have stp : Hid (Lib.validRune x = true) → Hid (∀ y ∈ xs.take (k + 1), Lib.validRune y = true) := fun h => by
          show ∀ y ∈ xs.take (k + 1), _
          rw [List.take_add_one, hxk]
          intro y hy
          rcases List.mem_append.1 hy with hy | hy
          · exact hall.out y hy
          · rw [show y = x by simpa using hy]; exact h.out
        have hltI : (k : Int) < n := by omega
        clear hc hxk HR cT cV cO cX cS
        rcases (show x < 0 ∨ 1114111 < x ∨ (0 ≤ x ∧ x < 55296) ∨ (55296 ≤ x ∧ x ≤ 57343) ∨ (57343 < x ∧ x ≤ 1114111) by omega) with hx3 | hx3 | ⟨hx3, hx4⟩ | ⟨hx3, hx4⟩ | ⟨hx3, hx4⟩
        · go_wp2_with (first | (go_at_call 28; refine (cW _ (hE.below hbw (Nat.le_refl _))).mono ?_; rintro e w1 ⟨rfl, hb1⟩))
          go_ret
          exact ⟨rfl, hbw.trans (hb1.mono hbw.size)⟩
        · go_wp2_with (first | (go_at_call 28; refine (cW _ (hE.below hbw (Nat.le_refl _))).mono ?_; rintro e w1 ⟨rfl, hb1⟩))
          go_ret
          exact ⟨rfl, hbw.trans (hb1.mono hbw.size)⟩
        · have hv : Lib.validRune x = true := by unfold Lib.validRune; simp; omega
          have Hv := Lib.hid hv
          clear hv
          go_wp2
          go_roundw
          case rel => exact ⟨k + 1, by go_num, by omega, stp Hv, hbw⟩
          case measure => simp [intOf]; omega
        · go_wp2_with (first | (go_at_call 28; refine (cW _ (hE.below hbw (Nat.le_refl _))).mono ?_; rintro e w1 ⟨rfl, hb1⟩))
          go_ret
          exact ⟨rfl, hbw.trans (hb1.mono hbw.size)⟩
        · have hv : Lib.validRune x = true := by unfold Lib.validRune; simp; omega
          have Hv := Lib.hid hv
          clear hv
          go_wp2
          go_roundw
          case rel => exact ⟨k + 1, by go_num, by omega, stp Hv, hbw⟩
          case measure => simp [intOf]; omega
    · obtain rfl : k = n := by omega
      have hfull : Hid (∀ x ∈ xs, Lib.validRune x = true) := by
        have h2 := hall.out
        rw [List.take_of_length_le (by have := Hn.out; omega)] at h2
        exact h2
      have dT := cT hfull
      have dV := cV hfull
      have dO := cO hfull
      have dX := cX hfull
      clear cT cV cO cX hall
      have hR0 := HR.out
      have hRr := (hR0.below hbw (Nat.le_refl _)).more hbw.size
      go_wp2_with (first | (go_at_call 31; refine (dT _ hRr).mono ?_; rintro e w1 ⟨rfl, hb1⟩))
      have hb01 := hbw.trans (hb1.mono hbw.size)
      have hR1 := (hR0.below hb01 (Nat.le_refl _)).more hb01.size
      have dV1 := dV _ hR1
      go_wp2
      rw [dV1]
      go_wp2_with (first | (go_at_call 25; refine (dO _).mono ?_; rintro e w2 ⟨A', c', rfl, hc', hrd, hb2⟩))
      have hb02 := hb01.trans (hb2.mono hb01.size)
      have hR2 := (hR0.below hb02 (Nat.le_refl _)).more hb02.size
      go_wp2_with (first | (go_at_call 26; refine (cS _ _ _ _ _ hrd hR2 hc' hcap).mono ?_; rintro e w3 ⟨rfl, hb3⟩))
      have hb03 := hb02.trans (hb3.mono hb02.size)
      obtain ⟨cap4, w4, dX4, hrd4, hc4, hb4⟩ := dX w3
      have hb04 := hb03.trans (hb4.mono hb03.size)
      have hR4 := (hR0.below hb04 (Nat.le_refl _)).more hb04.size
      go_wp2
      rw [dX4]
      go_wp2_with (first | (go_at_call 26; refine (cS _ _ _ _ _ hrd4 hR4 hc4 hcap).mono ?_; rintro e w5 ⟨rfl, hb5⟩))
      have hb05 := hb04.trans (hb5.mono hb04.size)
      have hE5 : HE w5 := hE.below hb05 (Nat.le_refl _)
      go_wp2_with (first | (go_at_call 28; refine (cW _ hE5).mono ?_; rintro e w6 ⟨rfl, hb6⟩))
      go_ret
      exact ⟨rfl, hb05.trans (hb6.mono hb05.size)⟩
theorem law_PointsRow (w : World) (hE : HE w) (a : Option Addr) (len cap : Nat) (zs : List Int) (h : IsRow .i32 w a len cap zs) (hy : len * 4 ≤ 140737488351232) :
    Calls Tryd.prog 6 #[.slice a len cap] w fun e w' => e = .returned (.bool true) ∧ Below w.heap.size w w' := by
  obtain ⟨hl, hR, hc, hw⟩ := h.rd
  have := PointsRow_of w hE a cap (zs.take len) (by omega) (fun x hx => wf32 (hw x hx)) hR (by omega)
  rw [hl] at this
  exact this
end Go.Proofs.YtbkimhbpcmbflaaDoor.C
set_option linter.unusedVariables false
set_option linter.unusedSimpArgs false
namespace Go.Proofs.YtbkimhbpcmbflaaDoor.C
open Go Go.RowKit Go.Proofs.YtbkimhbpcmbflaaDoor.M Go.Proofs.YtbkimhbpcmbflaaDoor.E Go.Proofs.YtbkimhbpcmbflaaDoor.PAll Go.Proofs.YtbkimhbpcmbflaaDoorW.PrintWords
def off (us : List (List UInt8)) (i : Nat) : Nat := ((us.take i).map dw).sum
theorem off_zero (us : List (List UInt8)) : off us 0 = 0 := by simp [off]
theorem off_cons (t : List UInt8) (us : List (List UInt8)) (i : Nat) : off (t :: us) (i + 1) = dw t + off us i := by simp [off]
theorem off_succ {us : List (List UInt8)} {i : Nat} {t : List UInt8} (h : us[i]? = some t) : off us (i + 1) = off us i + dw t := by
  unfold off
  rw [List.take_add_one, h]
  simp
theorem sfx_at : ∀ (l : List UInt8) (i : Nat) (t : List UInt8), (sfx l)[i]? = some t → t = l.drop (off (sfx l) i) := by
  intro l
  induction l using sfx_ind with
  | h0 => intro i t h; rw [sfx_nil] at h; simp at h
  | h1 l hne ih =>
    intro i t h
    rw [sfx_cons hne] at h ⊢
    cases i with
    | zero => simp at h; rw [off_zero, List.drop_zero, h]
    | succ i =>
      simp only [List.getElem?_cons_succ] at h
      rw [off_cons, ← List.drop_drop]
      exact ih i t h
theorem off_total : ∀ l : List UInt8, off (sfx l) (sfx l).length = l.length := by
  intro l
  induction l using sfx_ind with
  | h0 => rw [sfx_nil]; rfl
  | h1 l hne ih =>
    rw [sfx_cons hne, List.length_cons, off_cons, ih, List.length_drop]
    have := dw_len hne
    omega
theorem off_step {l : List UInt8} {i : Nat} (h : i < (sfx l).length) : off (sfx l) i < off (sfx l) (i + 1) := by
  have ht : (sfx l)[i]? = some (sfx l)[i] := List.getElem?_eq_getElem h
  have := dw_pos (sfx_ne (List.mem_of_getElem? ht))
  rw [off_succ ht]
  omega
theorem off_lt (l : List UInt8) : ∀ d i, i + d + 1 ≤ (sfx l).length → off (sfx l) i < off (sfx l) (i + d + 1)
  | 0, i, h => off_step (by omega)
  | d + 1, i, h => by
    have h1 := off_lt l d i (by omega)
    have h2 := off_step (l := l) (i := i + d + 1) (by omega)
    rw [show i + (d + 1) + 1 = i + d + 1 + 1 by omega]
    omega
theorem off_mono (l : List UInt8) {i j : Nat} (hij : i ≤ j) (hj : j ≤ (sfx l).length) : off (sfx l) i ≤ off (sfx l) j := by
  rcases Nat.lt_or_ge i j with h | h
  · have := off_lt l (j - i - 1) i (by omega)
    rw [show i + (j - i - 1) + 1 = j by omega] at this
    omega
  · rw [show i = j by omega]; exact Nat.le_refl _
theorem off_le (l : List UInt8) {i : Nat} (hi : i ≤ (sfx l).length) : off (sfx l) i ≤ l.length := by
  have := off_mono l hi (Nat.le_refl _)
  rw [off_total] at this
  exact this
theorem off_ge (l : List UInt8) : ∀ i, i ≤ (sfx l).length → i ≤ off (sfx l) i
  | 0, _ => Nat.zero_le _
  | i + 1, h => by have := off_ge l i (by omega); have := off_step (l := l) (i := i) (by omega); omega
/-- the unit of a number -/
def IsU (l : List UInt8) (at_ : Int) (i : Nat) : Prop := i ≤ (sfx l).length ∧ (i = 0 ∨ (off (sfx l) i : Int) ≤ at_) ∧ (i < (sfx l).length → at_ < (off (sfx l) (i + 1) : Int))
theorem IsU.unique {l : List UInt8} {a : Int} {i j : Nat} (hi : IsU l a i) (hj : IsU l a j) : i = j := by
  rcases Nat.lt_trichotomy i j with h | h | h
  · have h1 := hi.2.2 (by have := hj.1; omega)
    have h2 := off_mono l (show i + 1 ≤ j by omega) hj.1
    rcases hj.2.1 with h3 | h3 <;> omega
  · exact h
  · have h1 := hj.2.2 (by have := hi.1; omega)
    have h2 := off_mono l (show j + 1 ≤ i by omega) hi.1
    rcases hi.2.1 with h3 | h3 <;> omega
theorem take_dec {t : List UInt8} (h : t ≠ []) {n : Nat} (hn : dw t ≤ n) : dc (t.take n) = dc t ∧ dw (t.take n) = dw t := by
  have hp := dw_pos h
  have hne : t.take n ≠ [] := by
    intro e
    have := congrArg List.length e
    rw [List.length_take] at this
    have hl : 0 < t.length := List.length_pos_iff.2 h
    rw [List.length_nil] at this
    omega
  cases hi : ill t with
  | false =>
    have e1 := take_enc h hi
    have e2 : t.take n = enc (dc t) ++ (t.take n).drop (dw t) := by
      have := List.take_append_drop (dw t) (t.take n)
      rw [List.take_take, Nat.min_eq_left hn, e1] at this
      exact this.symm
    have hw : dw t = (enc (dc t)).length := by
      have h3 := List.take_append_drop (dw t) t
      rw [e1] at h3
      have := dw_enc (okc_dc h) (t.drop (dw t))
      rw [h3] at this
      exact this
    rw [e2, dc_enc (okc_dc h), dw_enc (okc_dc h)]
    exact ⟨rfl, hw.symm⟩
  | true =>
    have hdi : dc t = 65533 ∧ dw t = 1 := by simpa [ill] using hi
    cases hj : ill (t.take n) with
    | true =>
      have hdj : dc (t.take n) = 65533 ∧ dw (t.take n) = 1 := by simpa [ill] using hj
      rw [hdi.1, hdi.2, hdj.1, hdj.2]
      exact ⟨rfl, rfl⟩
    | false =>
      exfalso
      have e1 := take_enc hne hj
      have e2 : t = enc (dc (t.take n)) ++ ((t.take n).drop (dw (t.take n)) ++ t.drop n) := by
        rw [← e1, ← List.append_assoc, List.take_append_drop, List.take_append_drop]
      have k1 := dc_enc (okc_dc hne) ((t.take n).drop (dw (t.take n)) ++ t.drop n)
      have k2 := dw_enc (okc_dc hne) ((t.take n).drop (dw (t.take n)) ++ t.drop n)
      rw [← e2] at k1 k2
      rw [hdi.1] at k1
      rw [hdi.2, ← k1] at k2
      have e3 : (enc 65533).length = 3 := by decide
      rw [e3] at k2
      omega
theorem b0_take {t : List UInt8} {n : Nat} (hn : 1 ≤ n) : b0 (t.take n) = b0 t := by
  unfold b0
  cases t with
  | nil => simp
  | cons a t => cases n with
    | zero => omega
    | succ n => rfl
theorem pt_take {t : List UInt8} (h : t ≠ []) {n : Nat} (hn : dw t ≤ n) : pt (t.take n) = pt t := by
  have h1 := take_dec h hn
  have h2 := b0_take (t := t) (n := n) (by have := dw_pos h; omega)
  unfold pt ill
  rw [h1.1, h1.2, h2]
theorem pts_take : ∀ (l : List UInt8) (i : Nat), i ≤ (sfx l).length → pts (l.take (off (sfx l) i)) = (pts l).take i := by
  intro l
  induction l using sfx_ind with
  | h0 => intro i h; rw [sfx_nil] at h ⊢; simp [pts, sfx_nil]
  | h1 l hne ih =>
    intro i h
    cases i with
    | zero => rw [off_zero]; simp [pts, sfx_nil]
    | succ i =>
      rw [sfx_cons hne, List.length_cons] at h
      have hw := dw_pos hne
      rw [sfx_cons hne, off_cons]
      have hn2 : l.take (dw l + off (sfx (l.drop (dw l))) i) ≠ [] := by
        intro e
        have := congrArg List.length e
        rw [List.length_take] at this
        have hl : 0 < l.length := List.length_pos_iff.2 hne
        rw [List.length_nil] at this
        omega
      have hd := take_dec hne (n := dw l + off (sfx (l.drop (dw l))) i) (by omega)
      rw [pts_cons hn2, pts_cons hne, pt_take hne (by omega), hd.2, List.drop_take, Nat.add_sub_cancel_left, ih i (by omega)]
      rfl
theorem le_mono {α β : Type} {g : Nat → α → Option β} (hm : ∀ a k, LeO (g k a) (g (k + 1) a)) {a : α} {r : β} {k : Nat} (h : g k a = some r) : ∀ j, g (k + j) a = some r
  | 0 => h
  | j + 1 => hm a (k + j) r (le_mono hm h j)
theorem nextP_in (l : List UInt8) (p : Nat) (h : p < l.length) : nextP l (p : Int) = ((pt (l.drop p) : Int), (dw (l.drop p) : Int)) := by
  have hn : ¬ ((p : Int) < 0 ∨ (l.length : Int) ≤ (p : Int)) := by omega
  unfold nextP
  rw [if_neg hn, Int.toNat_natCast]
theorem nextP_at (s : ByteArray) {i : Nat} (h : i < (sfx (bl s)).length) : ∃ t, (sfx (bl s))[i]? = some t ∧ nextP (bl s) (off (sfx (bl s)) i : Nat) = ((pt t : Int), (dw t : Int)) := by
  obtain ⟨t, ht⟩ : ∃ t, (sfx (bl s))[i]? = some t := ⟨_, List.getElem?_eq_getElem h⟩
  have e := sfx_at _ _ _ ht
  have hlt : off (sfx (bl s)) i < (bl s).length := by
    have h1 := off_step h
    have h2 := off_le (bl s) (i := i + 1) (by omega)
    omega
  have e2 := nextP_in (bl s) _ hlt
  rw [← e] at e2
  exact ⟨t, ht, e2⟩
theorem unit_end (s : ByteArray) (a : Int) (i p k : Nat) (h : s.size ≤ p) : glossaryref02_Unit.l0 (k + 1) s a i p = some ((i : Int), (p : Int)) := by
  have h1 : ¬ ((p : Int) < (s.size : Int)) := by omega
  unfold glossaryref02_Unit.l0
  rw [if_neg h1]
theorem unit_hit (s : ByteArray) (a : Int) (i p d k : Nat) (x : Int) (h : p < s.size) (hs : s.size < 35184372088832) (hd : d ≤ 4) (hn : glossaryref02_Next.f k s p = some (x, (d : Int))) (hc : a < ((p + d : Nat) : Int)) : glossaryref02_Unit.l0 (k + 1) s a i p = some ((i : Int), (p : Int)) := by
  have h1 : (p : Int) < (s.size : Int) := by omega
  have h2 : wrap64 ((p : Int) + (d : Int)) = ((p + d : Nat) : Int) := by rw [w64 (by omega) (by omega)]; omega
  unfold glossaryref02_Unit.l0
  rw [if_pos h1, hn, Option.bind_some, h2, if_pos hc]
theorem unit_next (s : ByteArray) (a : Int) (i p d k : Nat) (x : Int) (h : p < s.size) (hi : i ≤ p) (hs : s.size < 35184372088832) (hd : d ≤ 4) (hn : glossaryref02_Next.f k s p = some (x, (d : Int))) (hc : ¬ a < ((p + d : Nat) : Int)) : glossaryref02_Unit.l0 (k + 1) s a i p = glossaryref02_Unit.l0 k s a ((i + 1 : Nat) : Int) ((p + d : Nat) : Int) := by
  have h1 : (p : Int) < (s.size : Int) := by omega
  have h2 : wrap64 ((p : Int) + (d : Int)) = ((p + d : Nat) : Int) := by rw [w64 (by omega) (by omega)]; omega
  have h3 : wrap64 ((i : Int) + 1) = ((i + 1 : Nat) : Int) := wi i (by omega)
  conv => lhs; unfold glossaryref02_Unit.l0
  rw [if_pos h1, hn, Option.bind_some, h2, if_neg hc, h3]
theorem unit_l0 (s : ByteArray) (hs : s.size < 35184372088832) (a : Int) : ∀ m i : Nat, i + m = (sfx (bl s)).length → (i = 0 ∨ (off (sfx (bl s)) i : Int) ≤ a) →
    ∃ k u, IsU (bl s) a u ∧ glossaryref02_Unit.l0 (k + 12) s a i (off (sfx (bl s)) i) = some ((u : Int), (off (sfx (bl s)) u : Int))
  | 0, i, h, h0 => by
    have e := off_total (bl s)
    rw [bl_len] at e
    have hi : i = (sfx (bl s)).length := by omega
    rw [← hi] at e
    exact ⟨0, i, ⟨by omega, h0, fun hh => by omega⟩, unit_end s a i _ 11 (by omega)⟩
  | m + 1, i, h, h0 => by
    have hi : i < (sfx (bl s)).length := by omega
    obtain ⟨t, ht, hn⟩ := nextP_at s hi
    have hs1 := off_succ ht
    have hle := off_le (bl s) (i := i + 1) (by omega)
    have hst := off_step hi
    rw [bl_len] at hle
    have hil := off_ge (bl s) i (by omega)
    have hd4 : dw t ≤ 4 := by have := d_facts (sfx_ne (List.mem_of_getElem? ht)); omega
    have hf : ∀ k, glossaryref02_Next.f (k + 12) s (off (sfx (bl s)) i : Nat) = some ((pt t : Int), (dw t : Int)) := fun k => (next_ref s (by omega) _ k).trans (congrArg some hn)
    by_cases hc : a < ((off (sfx (bl s)) i + dw t : Nat) : Int)
    · exact ⟨1, i, ⟨by omega, h0, fun _ => by rw [hs1]; exact hc⟩, unit_hit s a i _ (dw t) 12 _ (by omega) hs hd4 (hf 0) hc⟩
    · obtain ⟨k, u, hu, hk⟩ := unit_l0 s hs a m (i + 1) (by omega) (.inr (by rw [hs1]; omega))
      rw [hs1] at hk
      exact ⟨k + 1, u, hu, (unit_next s a i _ (dw t) (k + 12) _ (by omega) hil hs hd4 (hf k) hc).trans hk⟩
theorem unit_ref (s : ByteArray) (hs : s.size < 35184372088832) (a : Int) : ∃ k u, IsU (bl s) a u ∧ glossaryref02_Unit.f k s a = some ((u : Int), (off (sfx (bl s)) u : Int)) := by
  obtain ⟨k, u, hu, hk⟩ := unit_l0 s hs a (sfx (bl s)).length 0 (by omega) (.inl rfl)
  refine ⟨k + 12, u, hu, ?_⟩
  unfold glossaryref02_Unit.f
  rw [off_zero] at hk
  exact hk
def clampN (n : Nat) (u : Int) : Nat := (min u (n : Int)).toNat
theorem byte_stop (s : ByteArray) (u : Int) (i p k : Nat) (h : ¬ (i : Int) < u ∨ s.size ≤ p) : glossaryref02_Byte.l0 (k + 1) s u p i = some (p : Int) := by
  unfold glossaryref02_Byte.l0
  by_cases hc : (i : Int) < u
  · have h1 : ¬ ((p : Int) < (s.size : Int)) := by omega
    rw [if_pos hc, if_neg h1]
  · rw [if_neg hc]
theorem byte_next (s : ByteArray) (u : Int) (i p d k : Nat) (x : Int) (h : p < s.size) (hi : i ≤ p) (hs : s.size < 35184372088832) (hd : d ≤ 4) (hn : glossaryref02_Next.f k s p = some (x, (d : Int))) (hc : (i : Int) < u) : glossaryref02_Byte.l0 (k + 1) s u p i = glossaryref02_Byte.l0 k s u ((p + d : Nat) : Int) ((i + 1 : Nat) : Int) := by
  have h1 : (p : Int) < (s.size : Int) := by omega
  have h2 : wrap64 ((p : Int) + (d : Int)) = ((p + d : Nat) : Int) := by rw [w64 (by omega) (by omega)]; omega
  have h3 : wrap64 ((i : Int) + 1) = ((i + 1 : Nat) : Int) := wi i (by omega)
  conv => lhs; unfold glossaryref02_Byte.l0
  rw [if_pos hc, if_pos h1, hn, Option.bind_some, h2, h3]
theorem byte_l0 (s : ByteArray) (hs : s.size < 35184372088832) (u : Int) : ∀ m i : Nat, i + m = (sfx (bl s)).length → (i : Int) ≤ max u 0 →
    ∃ k, glossaryref02_Byte.l0 (k + 12) s u (off (sfx (bl s)) i) i = some (off (sfx (bl s)) (clampN (sfx (bl s)).length u) : Int)
  | 0, i, h, h0 => by
    have e := off_total (bl s)
    rw [bl_len] at e
    have hi : i = (sfx (bl s)).length := by omega
    rw [← hi] at e
    have ec : clampN (sfx (bl s)).length u = i := by unfold clampN; omega
    rw [ec]
    exact ⟨0, byte_stop s u i _ 11 (.inr (by omega))⟩
  | m + 1, i, h, h0 => by
    have hi : i < (sfx (bl s)).length := by omega
    obtain ⟨t, ht, hn⟩ := nextP_at s hi
    have hs1 := off_succ ht
    have hle := off_le (bl s) (i := i + 1) (by omega)
    have hst := off_step hi
    rw [bl_len] at hle
    have hil := off_ge (bl s) i (by omega)
    have hd4 : dw t ≤ 4 := by have := d_facts (sfx_ne (List.mem_of_getElem? ht)); omega
    have hf : ∀ k, glossaryref02_Next.f (k + 12) s (off (sfx (bl s)) i : Nat) = some ((pt t : Int), (dw t : Int)) := fun k => (next_ref s (by omega) _ k).trans (congrArg some hn)
    by_cases hc : (i : Int) < u
    · obtain ⟨k, hk⟩ := byte_l0 s hs u m (i + 1) (by omega) (by omega)
      rw [hs1] at hk
      exact ⟨k + 1, (byte_next s u i _ (dw t) (k + 12) _ (by omega) hil hs hd4 (hf k) hc).trans hk⟩
    · have ec : clampN (sfx (bl s)).length u = i := by unfold clampN; omega
      rw [ec]
      exact ⟨0, byte_stop s u i _ 11 (.inl hc)⟩
theorem byte_ref (s : ByteArray) (hs : s.size < 35184372088832) (u : Int) : ∃ k, glossaryref02_Byte.f k s u = some (off (sfx (bl s)) (clampN (sfx (bl s)).length u) : Int) := by
  obtain ⟨k, hk⟩ := byte_l0 s hs u (sfx (bl s)).length 0 (by omega) (by omega)
  refine ⟨k + 12, ?_⟩
  unfold glossaryref02_Byte.f
  rw [off_zero] at hk
  exact hk
def wsum : List Int → Int
  | [] => 0
  | x :: xs => (if 65535 < x ∧ x ≤ 1114111 then 2 else 1) + wsum xs
def lfold : Int → Int → List Int → Int × Int
  | a, b, [] => (a, b)
  | a, b, x :: xs => if x = 10 then lfold (a + 1) 1 xs else lfold a (b + 1) xs
theorem wide_l0 (xs : List Int) (hl : xs.length ≤ 1048576) (hx : ∀ x ∈ xs, -2147483648 ≤ x ∧ x ≤ 2147483647) : ∀ (m i : Nat) (z : Int), i + m = xs.length → 0 ≤ z → z ≤ 2 * i → glossaryref02_Wide.l0 (m + 1) z xs i = some (z + wsum (xs.drop i))
  | 0, i, z, h, h0, h1 => by
    have hi : ¬ ((i : Int) < (xs.length : Int)) := by omega
    unfold glossaryref02_Wide.l0
    rw [if_neg hi, List.drop_of_length_le (by omega)]
    simp [wsum]
  | m + 1, i, z, h, h0, h1 => by
    have hi : (i : Int) < (xs.length : Int) := by omega
    have hi0 : (0 : Int) ≤ i := by omega
    obtain ⟨x, hxi⟩ : ∃ x, xs[i]? = some x := ⟨_, List.getElem?_eq_getElem (show i < xs.length by omega)⟩
    have hr := hx x (List.mem_of_getElem? hxi)
    have hd : xs.drop i = x :: xs.drop (i + 1) := by
      have := List.drop_eq_getElem_cons (l := xs) (i := i) (by omega)
      rw [this]
      rw [List.getElem?_eq_getElem (show i < xs.length by omega)] at hxi
      rw [Option.some.inj hxi]
    have hw : wrap64 (rd xs (i : Int)) = x := by rw [rd_some hxi, w64 (by omega) (by omega)]
    have h3 : wrap64 ((i : Int) + 1) = ((i + 1 : Nat) : Int) := wi i (by omega)
    have h4 : wrap64 (z + 1) = z + 1 := w64 (by omega) (by omega)
    have h5 : wrap64 (z + 1 + 1) = z + 2 := by rw [w64 (by omega) (by omega)]; omega
    conv => lhs; unfold glossaryref02_Wide.l0
    rw [if_pos hi, if_pos hi0, hw, h3, h4, h5, hd, wsum]
    by_cases c1 : x > 65535
    · rw [if_pos c1]
      by_cases c2 : x ≤ 1114111
      · rw [if_pos c2, if_pos ⟨c1, c2⟩, wide_l0 xs hl hx m (i + 1) (z + 2) (by omega) (by omega) (by omega)]
        congr 1; omega
      · rw [if_neg c2, if_neg (fun hh => c2 hh.2), wide_l0 xs hl hx m (i + 1) (z + 1) (by omega) (by omega) (by omega)]
        congr 1; omega
    · rw [if_neg c1, if_neg (fun hh => c1 hh.1), wide_l0 xs hl hx m (i + 1) (z + 1) (by omega) (by omega) (by omega)]
      congr 1; omega
theorem line_l0 (xs : List Int) (hl : xs.length ≤ 1048576) : ∀ (m i : Nat) (a b : Int), i + m = xs.length → 0 ≤ a → a ≤ i + 1 → 0 ≤ b → b ≤ i + 1 → glossaryref02_Line.l0 (m + 1) a b xs i = some (lfold a b (xs.drop i))
  | 0, i, a, b, h, h0, h1, h2, h3 => by
    have hi : ¬ ((i : Int) < (xs.length : Int)) := by omega
    unfold glossaryref02_Line.l0
    rw [if_neg hi, List.drop_of_length_le (by omega)]
    simp [lfold]
  | m + 1, i, a, b, h, h0, h1, h2, h3 => by
    have hi : (i : Int) < (xs.length : Int) := by omega
    have hi0 : (0 : Int) ≤ i := by omega
    obtain ⟨x, hxi⟩ : ∃ x, xs[i]? = some x := ⟨_, List.getElem?_eq_getElem (show i < xs.length by omega)⟩
    have hd : xs.drop i = x :: xs.drop (i + 1) := by
      have := List.drop_eq_getElem_cons (l := xs) (i := i) (by omega)
      rw [this]
      rw [List.getElem?_eq_getElem (show i < xs.length by omega)] at hxi
      rw [Option.some.inj hxi]
    have h4 : wrap64 ((i : Int) + 1) = ((i + 1 : Nat) : Int) := wi i (by omega)
    have h5 : wrap64 (a + 1) = a + 1 := w64 (by omega) (by omega)
    have h6 : wrap64 (b + 1) = b + 1 := w64 (by omega) (by omega)
    conv => lhs; unfold glossaryref02_Line.l0
    rw [if_pos hi, if_pos hi0, rd_some hxi, h4, h5, h6, hd, lfold]
    by_cases c1 : x = 10
    · rw [if_pos c1, if_pos c1, line_l0 xs hl m (i + 1) (a + 1) 1 (by omega) (by omega) (by omega) (by omega) (by omega)]
    · rw [if_neg c1, if_neg c1, line_l0 xs hl m (i + 1) a (b + 1) (by omega) (by omega) (by omega) (by omega) (by omega)]
theorem ex_bl (s : ByteArray) (n : Nat) : bl (s.extract 0 n) = (bl s).take n := by unfold bl; simp
theorem of_take (s : ByteArray) (hs : s.size ≤ 1048576) (u : Nat) (hu : u ≤ (sfx (bl s)).length) : ∃ k, glossaryref02_Of.f k (s.extract 0 (off (sfx (bl s)) u)) = some ((pts (bl s)).take u) := by
  have h1 := bl_len (s.extract 0 (off (sfx (bl s)) u))
  rw [ex_bl, List.length_take, bl_len] at h1
  obtain ⟨k, hk⟩ := of_ref (s.extract 0 (off (sfx (bl s)) u)) (by omega)
  rw [ex_bl, pts_take _ _ hu] at hk
  exact ⟨k, hk⟩
theorem wide_ref (s : ByteArray) (hs : s.size ≤ 1048576) (a : Int) (u : Nat) (hu : IsU (bl s) a u) : ∃ k, glossaryref02_Wide.f k s a = some (wsum ((pts (bl s)).take u)) := by
  obtain ⟨k1, u', hu', hk1⟩ := unit_ref s (by omega) a
  obtain rfl : u' = u := hu'.unique hu
  obtain ⟨k2, hk2⟩ := of_take s hs u' hu.1
  have hle := off_le (bl s) hu.1
  rw [bl_len] at hle
  have hpl := pts_len (bl s)
  rw [bl_len] at hpl
  have hk3 := wide_l0 ((pts (bl s)).take u') (by rw [List.length_take]; omega) (fun x hx => pts_range _ x (List.mem_of_mem_take hx)) ((pts (bl s)).take u').length 0 0 (by omega) (by omega) (by omega)
  rw [List.drop_zero, Int.zero_add] at hk3
  have m1 := le_mono (g := fun k (p : ByteArray × Int) => glossaryref02_Unit.f k p.1 p.2) (fun p k => glossaryref02_Unit.mono p.1 p.2 k) (a := (s, a)) hk1 (k2 + ((pts (bl s)).take u').length + 1)
  have m2 := le_mono (g := fun k (p : ByteArray) => glossaryref02_Of.f k p) (fun p k => glossaryref02_Of.mono p k) (a := s.extract 0 (off (sfx (bl s)) u')) hk2 (k1 + ((pts (bl s)).take u').length + 1)
  have m3 := le_mono (g := fun k (p : Int × List Int × Int) => glossaryref02_Wide.l0 k p.1 p.2.1 p.2.2) (fun p k => glossaryref02_Wide.mono_l k _ _ _) (a := (0, (pts (bl s)).take u', ((0 : Nat) : Int))) hk3 (k1 + k2)
  have e2 : k2 + (k1 + ((pts (bl s)).take u').length + 1) = k1 + (k2 + ((pts (bl s)).take u').length + 1) := by omega
  have e3 : ((pts (bl s)).take u').length + 1 + (k1 + k2) = k1 + (k2 + ((pts (bl s)).take u').length + 1) := by omega
  rw [e2] at m2
  rw [e3] at m3
  refine ⟨k1 + (k2 + ((pts (bl s)).take u').length + 1), ?_⟩
  have c1 : (0 : Int) ≤ (off (sfx (bl s)) u' : Int) := by omega
  have c2 : (off (sfx (bl s)) u' : Int) ≤ (s.size : Int) := by omega
  unfold glossaryref02_Wide.f
  rw [show glossaryref02_Unit.f (k1 + (k2 + ((pts (bl s)).take u').length + 1)) s a = _ from m1, Option.bind_some]
  show (if 0 ≤ (off (sfx (bl s)) u' : Int) then (if (off (sfx (bl s)) u' : Int) ≤ (s.size : Int) then (glossaryref02_Of.f _ (s.extract 0 ((off (sfx (bl s)) u' : Int)).toNat)).bind _ else none) else none) = _
  rw [if_pos c1, if_pos c2, Int.toNat_natCast, m2, Option.bind_some]
  exact m3
theorem line_ref (s : ByteArray) (hs : s.size ≤ 1048576) (a : Int) (u : Nat) (hu : IsU (bl s) a u) : ∃ k, glossaryref02_Line.f k s a = some (lfold 1 1 ((pts (bl s)).take u)) := by
  obtain ⟨k1, u', hu', hk1⟩ := unit_ref s (by omega) a
  obtain rfl : u' = u := hu'.unique hu
  obtain ⟨k2, hk2⟩ := of_take s hs u' hu.1
  have hle := off_le (bl s) hu.1
  rw [bl_len] at hle
  have hpl := pts_len (bl s)
  rw [bl_len] at hpl
  have hk3 := line_l0 ((pts (bl s)).take u') (by rw [List.length_take]; omega) ((pts (bl s)).take u').length 0 1 1 (by omega) (by omega) (by omega) (by omega) (by omega)
  rw [List.drop_zero] at hk3
  have m1 := le_mono (g := fun k (p : ByteArray × Int) => glossaryref02_Unit.f k p.1 p.2) (fun p k => glossaryref02_Unit.mono p.1 p.2 k) (a := (s, a)) hk1 (k2 + ((pts (bl s)).take u').length + 1)
  have m2 := le_mono (g := fun k (p : ByteArray) => glossaryref02_Of.f k p) (fun p k => glossaryref02_Of.mono p k) (a := s.extract 0 (off (sfx (bl s)) u')) hk2 (k1 + ((pts (bl s)).take u').length + 1)
  have m3 := le_mono (g := fun k (p : List Int × Int) => glossaryref02_Line.l0 k 1 1 p.1 p.2) (fun p k => glossaryref02_Line.mono_l k _ _ _ _) (a := ((pts (bl s)).take u', ((0 : Nat) : Int))) hk3 (k1 + k2)
  have e2 : k2 + (k1 + ((pts (bl s)).take u').length + 1) = k1 + (k2 + ((pts (bl s)).take u').length + 1) := by omega
  have e3 : ((pts (bl s)).take u').length + 1 + (k1 + k2) = k1 + (k2 + ((pts (bl s)).take u').length + 1) := by omega
  rw [e2] at m2
  rw [e3] at m3
  refine ⟨k1 + (k2 + ((pts (bl s)).take u').length + 1), ?_⟩
  have c1 : (0 : Int) ≤ (off (sfx (bl s)) u' : Int) := by omega
  have c2 : (off (sfx (bl s)) u' : Int) ≤ (s.size : Int) := by omega
  unfold glossaryref02_Line.f
  rw [show glossaryref02_Unit.f (k1 + (k2 + ((pts (bl s)).take u').length + 1)) s a = _ from m1, Option.bind_some]
  show (if 0 ≤ (off (sfx (bl s)) u' : Int) then (if (off (sfx (bl s)) u' : Int) ≤ (s.size : Int) then (glossaryref02_Of.f _ (s.extract 0 ((off (sfx (bl s)) u' : Int)).toNat)).bind _ else none) else none) = _
  rw [if_pos c1, if_pos c2, Int.toNat_natCast, m2, Option.bind_some]
  exact m3
end Go.Proofs.YtbkimhbpcmbflaaDoor.C
