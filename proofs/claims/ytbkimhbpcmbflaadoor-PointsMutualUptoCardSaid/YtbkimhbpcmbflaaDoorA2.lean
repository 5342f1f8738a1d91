/-
  points.Of: the points of a text, in a row of its own.
-/
import Derived.Test.YtbkimhbpcmbflaaDoorA1
import Derived.Laws.IdiomStrings
import Derived.Lib.OthersKept
set_option linter.unusedVariables false
set_option linter.unusedSimpArgs false
namespace Go.Proofs.YtbkimhbpcmbflaaDoor.C
open Go Go.RowKit Go.Proofs.YtbkimhbpcmbflaaDoor.M

/-- a row of whole numbers, of the call's own -/
def Row (w : World) (base : Nat) (e : TypeId) (k : IntKind) (v : Value) (xs : List Int) : Prop := w.ownsRow base e 1 v xs.length (xs.map (Value.int k))

/-! ### U+FFFD that stands in a text -/
theorem fffd_prefix {t : List UInt8} (h : t ≠ []) (hc : dc t = 65533) : Lib.hasPrefix t [239, 191, 189] = !(ill t) := by
  have e3 : enc 65533 = [239, 191, 189] := by decide
  cases hi : ill t with
  | false =>
    have ht := take_enc h hi
    have hw : dw t = 3 := by
      have := (d_facts h).2.2.2.2.2.2 hc
      have h2 : ¬ (dc t = 65533 ∧ dw t = 1) := by simpa [ill] using hi
      omega
    rw [hc, e3, hw] at ht
    show List.isPrefixOf [239, 191, 189] t = true
    rw [List.isPrefixOf_iff_prefix]
    exact ⟨t.drop 3, by rw [← ht]; exact List.take_append_drop 3 t⟩
  | true =>
    show List.isPrefixOf [239, 191, 189] t = false
    rw [Bool.eq_false_iff]
    intro hp
    rw [List.isPrefixOf_iff_prefix] at hp
    obtain ⟨r, hr⟩ := hp
    have := dw_enc (c := 65533) (by unfold okc; omega) r
    rw [e3, hr] at this
    have h2 : dc t = 65533 ∧ dw t = 1 := by simpa [ill] using hi
    simp at this
    omega

theorem cell_modify {w : World} {B : Nat} {cur : Array Value} {e : TypeId} (h : w.heap[B]? = some (.cells cur e (0, 0))) (j : Nat) (u : Value) :
    (w.setCell ⟨B, j, none⟩ u).heap[B]? = some (.cells (cur.setIfInBounds j u) e (0, 0)) := by
  simp [World.setCell, Array.getElem?_modify, h]
theorem frozen_cells {w : World} {B : Nat} {cur : Array Value} {e : TypeId} (h : w.heap[B]? = some (.cells cur e (0, 0))) (j : Nat) : w.frozen? ⟨B, j, none⟩ = false := by
  simp [World.frozen?, h]

theorem w32 {x : Int} (h0 : -2147483648 ≤ x) (h1 : x ≤ 2147483647) : wrap32 x = x := by unfold wrap32; omega
theorem w64 {x : Int} (h0 : -9223372036854775808 ≤ x) (h1 : x ≤ 9223372036854775807) : wrap64 x = x := by unfold wrap64; omega

/-- the cells while the loop goes on: what is done holds points, the rest numbers -/
def mixed (pre rest : List (List UInt8)) : List Int := (pre.map fun t => (pt t : Int)) ++ rest.map fun t => (dc t : Int)
theorem mixed_same {pre rest : List (List UInt8)} {t : List UInt8} (h : ill t = false) : mixed (pre ++ [t]) rest = mixed pre (t :: rest) := by
  simp [mixed, pt, h]
theorem mixed_set {pre rest : List (List UInt8)} {t : List UInt8} : mixed (pre ++ [t]) rest = (mixed pre (t :: rest)).set pre.length (pt t : Int) := by
  simp [mixed, List.set_append]

set_option maxHeartbeats 4000000 in
set_option maxRecDepth 1000000 in
theorem of_any (s : ByteArray) (w : World) (hs : s.size ≤ 140737488351232) (h46 : (sfx (bl s)).length ≤ 70368744177664) :
    Calls Tryd.prog 25 #[.string s] w fun e w' => ∃ v, e = .returned v ∧ Row w' w.heap.size 21 .i32 v (pts (bl s)) ∧ Below w.heap.size w w' := by
  have hsz : (Conv.runesFrom s s.size 0 #[]).size = (sfx (bl s)).length := conv_runes_size s
  have hli : (Conv.runesFrom s s.size 0 #[]).toList = (runes (bl s)).map (Value.int .i32) := conv_runes s
  have hle := sfx_len (bl s)
  have hbl := bl_len s
  have hcv := run_runes_of_string (P := Tryd.prog) w 9 22 21 s Tryd.underlying9 Tryd.underlying22 Tryd.underlying21 (by omega)
  obtain ⟨n, hn⟩ : ∃ n, (Conv.runesFrom s s.size 0 #[]).size = n := ⟨_, rfl⟩
  rw [hn] at hcv
  have hge := grownCap_ge w n 0 21
  have hn46 : n ≤ 70368744177664 := by omega
  have h9 : n ≤ maxLen := by unfold maxLen; omega
  clear h46
  have hlm := grownCap_le_maxLen w n 0 21 h9
  obtain ⟨cap, hcap⟩ : ∃ cap, grownCap w n 0 21 = cap := ⟨_, rfl⟩
  rw [hcap] at hcv hge hlm
  obtain ⟨cur, hcur⟩ : ∃ cur, Conv.runesFrom s s.size 0 #[] ++ Array.replicate (cap - n) (Value.int .i32 0) = cur := ⟨_, rfl⟩
  rw [hcur] at hcv
  have hcs : cur.size = cap := by rw [← hcur]; simp; omega
  have hct : cur.toList.take n = (mixed [] (sfx (bl s))).map (Value.int .i32) := by
    rw [← hcur]
    simp only [Array.toList_append, Array.toList_replicate]
    rw [List.take_append_of_le_length (by simp; omega), List.take_of_length_le (by simp; omega), hli]
    rfl
  have hns : n = (sfx (bl s)).length := by rw [← hn, hsz]
  have Hns := Lib.hid hns
  have Hcs := Lib.hid hcs
  have Hct := Lib.hid hct
  have Hbl := Lib.hid hbl
  clear hsz hli hcap hcur hn hns hcs hct hbl hle h9
  go_enter Tryd.func25, Tryd.ntmps25
  go_wp2
  go_loopw [4] (fun kv wr => ∃ (pos : Nat) (pre : List (List UInt8)) (cu : Array Value), kv = .int .i64 pre.length ∧ Hid (sfx (bl s) = pre ++ sfx ((bl s).drop pos)) ∧ wr.heap[w.heap.size + 1]? = some (.stringIter s pos) ∧
      wr.heap[w.heap.size]? = some (.cells cu 21 (0, 0)) ∧ Hid (cu.size = cap) ∧ Hid (cu.toList.take n = (mixed pre (sfx ((bl s).drop pos))).map (Value.int .i32)) ∧ Below w.heap.size w wr) (fun _ wr => s.size - wr.iterPos (w.heap.size + 1))
  case atStart =>
    refine ⟨0, [], cur, rfl, by simp [Hid], ?_, ?_, Hcs, by rw [List.drop_zero]; exact Hct, ?_⟩
    · simpa using World.iter_heap ((w.alloc (.cells cur 21)).drew) s 0
    · have h1 := heap_alloc_new w (.cells cur 21)
      exact (Below.heap_alloc ((w.alloc (.cells cur 21)).drew) (.stringIter s 0) w.heap.size (by simp)).trans h1
    · exact (((Below.refl _ w).alloc (Nat.le_refl _) _).drew).alloc (by simp) _
  case round =>
    obtain ⟨pos, pre, cu, rfl, hpre, hit, hblk, hcu, htk, hbw⟩ := hrel
    have hszw : w.heap.size + 1 < wr.heap.size := (Array.getElem?_eq_some_iff.1 hit).1
    by_cases hp : pos < s.size
    · obtain ⟨t, ht⟩ : ∃ t, (bl s).drop pos = t := ⟨_, rfl⟩
      have hne : t ≠ [] := by rw [← ht]; exact bl_nonempty hp
      have hd : Utf8.decode s pos = (dc t, dw t) := by rw [← ht]; exact (Lib.decodeL_drop s pos).symm
      have hb0 : (s[pos]'hp).toNat = b0 t := by rw [← ht]; exact byte_at hp
      have hnx : ∀ ty, (Instr.next (.pointer (some ⟨w.heap.size + 1, 0, none⟩)) true ty).run Tryd.prog wr = .ok (.tuple #[.bool true, .int .i64 pos, .int .i32 (dc t : Nat)]) (wr.iterAt (w.heap.size + 1) s (pos + dw t)) := fun ty => by
        have := Lib.run_next_any_at (P := Tryd.prog) wr (w.heap.size + 1) s pos ty hit hp
        rw [hd] at this
        exact this
      have hw1 := dw_pos hne
      have hw2 := dw_len hne
      have hdrop : (bl s).drop (pos + dw t) = t.drop (dw t) := by rw [← ht, List.drop_drop]
      have hsx : sfx ((bl s).drop pos) = t :: sfx ((bl s).drop (pos + dw t)) := by rw [ht, sfx_cons hne, hdrop]
      have hkn : pre.length < n := by
        have h1 := Hns.out
        have h2 := hpre.out
        rw [hsx] at h2
        rw [h1, h2]; simp
      have hpre2 : Hid (sfx (bl s) = (pre ++ [t]) ++ sfx ((bl s).drop (pos + dw t))) := by
        show sfx (bl s) = _
        rw [hpre.out, hsx]; simp
      have hcl : cu.size = cap := hcu.out
      have htk2 : Hid (cu.toList.take n = (mixed pre (t :: sfx ((bl s).drop (pos + dw t)))).map (Value.int .i32)) := by
        have := htk.out
        rw [hsx] at this
        exact this
      have hHP := Tryd.strings_HasPrefix (s.extract pos s.size) ⟨#[239, 191, 189]⟩ (wr.iterAt (w.heap.size + 1) s (pos + dw t))
      have hbx : bl (s.extract pos s.size) = t := by rw [bl_extract, ht]
      have hit2 := Lib.iterAt_heap wr (w.heap.size + 1) s pos (pos + dw t) hit
      have hblk2 : (wr.iterAt (w.heap.size + 1) s (pos + dw t)).heap[w.heap.size]? = some (.cells cu 21 (0, 0)) := (Lib.iterAt_other wr (w.heap.size + 1) w.heap.size s (pos + dw t) (by omega)).trans hblk
      have hbw2 : Below w.heap.size w (wr.iterAt (w.heap.size + 1) s (pos + dw t)) := Lib.below_iterAt hbw (by omega) s _
      have hp1 : (pos : Int) < s.size := by omega
      have hknI : (pre.length : Int) < n := by omega
      obtain ⟨old, hcell⟩ : ∃ old, (wr.iterAt (w.heap.size + 1) s (pos + dw t)).cell? ⟨w.heap.size, pre.length, none⟩ = some old := by
        rw [cell_of_row _ _ _ _ _ _ hblk2]
        exact ⟨cu[pre.length]'(by omega), Array.getElem?_eq_getElem _⟩
      have hfr := frozen_cells hblk2 pre.length
      have hm : s.size - (pos + dw t) < s.size - pos := by omega
      have hpl : pos + dw t ≤ s.size := by
        have h1 := Hbl.out
        have h2 := congrArg List.length ht
        simp at h2
        omega
      have Hhd := Lib.hid hd
      have Hb0 := Lib.hid hb0
      have Hhit := Lib.hid hit
      have Hblk := Lib.hid hblk
      have Hcl := Lib.hid hcl
      have Hht := Lib.hid ht
      have Hdr := Lib.hid hdrop
      have Hbx := Lib.hid hbx
      have Hsx := Lib.hid hsx
      have Hblk2 := Lib.hid hblk2
      have Hit2 := Lib.hid hit2
      cases hi : ill t with
      | true =>
        have e : dc t = 65533 := by
          have : dc t = 65533 ∧ dw t = 1 := by simpa [ill] using hi
          exact this.1
        have hpf : Lib.hasPrefix (s.extract pos s.size).data.toList (⟨#[239, 191, 189]⟩ : ByteArray).data.toList = false := by
          show Lib.hasPrefix (bl (s.extract pos s.size)) [239, 191, 189] = false
          rw [Hbx.out, fffd_prefix hne e, hi]; rfl
        rw [hpf] at hHP
        have hpt : pt t = 1114112 + b0 t := by simp [pt, hi]
        have Hpt := Lib.hid hpt
        have Hi := Lib.hid hi
        have e2 : ((dc t : Nat) : Int) = 65533 := by omega
        rw [e2] at hnx
        clear hd hb0 hit hblk hcl ht hdrop hbx hsx hblk2 hit2 hpf hpt hi e e2
        go_wp2_with (go_at_call 76; refine hHP.mono ?_; rintro e w' ⟨rfl, rfl⟩)
        go_roundw
        case rel =>
          have hpt' : ((1114112 + (s[pos]'hp).toNat : Nat) : Int) = (pt t : Nat) := by rw [Hpt.out, Hb0.out]
          refine ⟨pos + dw t, pre ++ [t], _, by simp, hpre2, ?_, cell_modify Hblk2.out _ _, ?_, ?_, hbw2.setCell (Nat.le_refl _) _⟩
          · rw [Below.heap_setCell _ _ _ _ (by simp)]
            exact Hit2.out
          · show _ = cap
            rw [Array.size_setIfInBounds]; exact Hcl.out
          · show List.take n (cu.setIfInBounds _ _).toList = _
            have hbt : (s[pos]'hp).toNat < 256 := (s[pos]'hp).toNat_lt
            rw [mixed_set, List.map_set, ← htk2.out, Array.toList_setIfInBounds, List.take_set, ← hpt', w32 (x := ((s[pos]'hp).toNat : Int)) (by omega) (by omega), w32 (by omega) (by omega)]
            simp
        case measure =>
          have h2 := fun u => (Below.heap_setCell (wr.iterAt (w.heap.size + 1) s (pos + dw t)) ⟨w.heap.size, pre.length, none⟩ u (w.heap.size + 1) (by simp)).trans Hit2.out
          simp only [World.iterPos, h2, Hhit.out]
          exact hm
      | false =>
        have Hi := Lib.hid hi
        by_cases e : dc t = 65533
        · have hpf : Lib.hasPrefix (s.extract pos s.size).data.toList (⟨#[239, 191, 189]⟩ : ByteArray).data.toList = true := by
            show Lib.hasPrefix (bl (s.extract pos s.size)) [239, 191, 189] = true
            rw [Hbx.out, fffd_prefix hne e, hi]; rfl
          rw [hpf] at hHP
          have e2 : ((dc t : Nat) : Int) = 65533 := by omega
          rw [e2] at hnx
          clear hd hb0 hit hblk hcl ht hdrop hbx hsx hblk2 hit2 hpf hi e e2 hcell hfr
          go_wp2_with (go_at_call 76; refine hHP.mono ?_; rintro e w' ⟨rfl, rfl⟩)
          go_roundw
          case rel =>
            exact ⟨pos + dw t, pre ++ [t], _, by simp, hpre2, Hit2.out, Hblk2.out, Hcl.out, by rw [mixed_same Hi.out]; exact htk2, hbw2⟩
          case measure =>
            simp only [World.iterPos, Hit2.out, Hhit.out]
            exact hm
        · have e2 : (((dc t : Nat) : Int) == 65533) = false := beq_eq_false_iff_ne.2 (by omega)
          clear hd hb0 hit hblk hcl ht hdrop hbx hsx hblk2 hit2 hi e hcell hfr hHP
          go_wp2
          go_roundw
          case rel =>
            exact ⟨pos + dw t, pre ++ [t], _, by simp, hpre2, Hit2.out, Hblk2.out, Hcl.out, by rw [mixed_same Hi.out]; exact htk2, hbw2⟩
          case measure =>
            simp only [World.iterPos, Hit2.out, Hhit.out]
            exact hm
    · have hnx : ∀ ty, (Instr.next (.pointer (some ⟨w.heap.size + 1, 0, none⟩)) true ty).run Tryd.prog wr = _ := fun ty => Lib.run_next_end_at wr (w.heap.size + 1) s pos ty hit hp
      have hend : (bl s).drop pos = [] := List.drop_eq_nil_of_le (by have := Hbl.out; omega)
      have hcl : cu.size = cap := hcu.out
      have hpe : sfx (bl s) = pre := by have := hpre.out; rw [hend, sfx_nil, List.append_nil] at this; exact this
      have htn : cu.toList.take n = (pts (bl s)).map (Value.int .i32) := by
        have := htk.out
        rw [hend, sfx_nil, ← hpe] at this
        rw [this]; simp [mixed, pts]
      have hnp : (pts (bl s)).length = n := by rw [Hns.out]; simp [pts]
      have hrow : Row wr w.heap.size 21 .i32 (.slice (some ⟨w.heap.size, 0, none⟩) n cap) (pts (bl s)) := by
        refine ⟨by simp, .inr ⟨w.heap.size, cap, cu, by rw [hnp], Nat.le_refl _, hblk, by omega, hlm, by omega, ?_⟩⟩
        rw [hnp, Nat.mul_one]; exact htn
      clear hend hcl hpe htn hnp hit hblk
      go_wp2
      go_ret
      exact ⟨_, rfl, hrow, hbw⟩
end Go.Proofs.YtbkimhbpcmbflaaDoor.C
