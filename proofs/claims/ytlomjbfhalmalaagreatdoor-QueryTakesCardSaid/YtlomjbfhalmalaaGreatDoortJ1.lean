/-
  Of this seat's texts what the claim wants (printed by a program): J1.
-/
import Derived.Test.YtlomjbfhalmalaaGreatDoortMM
import Derived.Lib.Small
import Derived.Scope
import Derived.Test.YtlomjbfhalmalaaGreatDoortShelf
import Derived.Test.YtlomjbfhalmalaaGreatDoortMath1
import Derived.WalkKit
import Derived.WalkSpells
import Derived.WalkLawsBesides
import Derived.BigCall
import Derived.Lib.Hide
import Derived.Lib.IndexBytes
import Derived.Laws.IdiomStrings
import Derived.Lib.OthersKept
import Derived.Lib.AppendStr
import Derived.Laws.BytesArg
import Derived.LaidEql
import Derived.Stop.Asserts
import Derived.RowKitTokens
import Derived.KernelRfl
import Derived.Laws.Tables
import Derived.Laws.Rows
import Derived.Deep.RegionHeld3
import Derived.Test.YtlomjbfhalmalaaGreatDoortPAllx
import Derived.Laws.Cover4
import Derived.RangeFuncNested
import Derived.RangeFuncBound
import Derived.RangeFuncCalls
import Derived.RangeFuncLeaves
import Derived.Shelf.Abstract
import Derived.Shelf.RegionOpen
import Derived.OwnWalkIn
import Derived.TacticsInMore
import Derived.LoopNIn
import Derived.LoopIn
import Derived.Shelf.Unicode.ValidAny
import Derived.Deep.QuietTactic
import Derived.BigQuiet
import Derived.RangeFuncBox
import Derived.Deep.AppendLies
import Derived.Shelf.Strings.SlTrimAscii
set_option linter.unusedVariables false
set_option linter.unusedSimpArgs false
set_option maxRecDepth 100000
namespace Go.Proofs.YtlomjbfhalmalaaGreatDoor.M
open Go Go.Lib
def Ch (l r : List UInt8) : Prop := ∃ q, sfx l = q ++ sfx r
theorem Ch.refl (l : List UInt8) : Ch l l := ⟨[], rfl⟩
theorem Ch.trans {a b c : List UInt8} (h : Ch a b) (k : Ch b c) : Ch a c := by
  obtain ⟨q, hq⟩ := h
  obtain ⟨p, hp⟩ := k
  exact ⟨q ++ p, by rw [hq, hp, List.append_assoc]⟩
theorem Ch.nil (l : List UInt8) : Ch l [] := ⟨sfx l, by rw [sfx_nil, List.append_nil]⟩
theorem Ch.unit {l : List UInt8} (h : l ≠ []) : Ch l (l.drop (dw l)) := ⟨[l], by rw [sfx_cons h]; rfl⟩
theorem Ch.drop {l r : List UInt8} (h : Ch l r) : r.length ≤ l.length ∧ r = l.drop (l.length - r.length) := by
  by_cases hr : r = []
  · subst hr; exact ⟨by simp, by simp⟩
  · obtain ⟨q, hq⟩ := h
    exact units_drop hq hr
theorem b0_unit {l : List UInt8} (h : l ≠ []) (hb : b0 l < 128) : dw l = 1 ∧ dc l = b0 l := by
  have f := d_facts h
  have : dw l = 1 := by
    rcases Nat.lt_or_ge (dw l) 2 with h2 | h2
    · omega
    · have := (f.2.2.2.2.2.1 h2).1; omega
  exact ⟨this, by have := f.2.2.2.2.1 this; omega⟩
theorem unit_bytes {l : List UInt8} (h : l ≠ []) (i : Nat) (h1 : 1 ≤ i) (hi : i < dw l) : 128 ≤ bt l i := by
  rcases ill_or h with ⟨_, _, _, h4⟩ | ⟨_, hb⟩
  · omega
  · exact (bg_cont h1 (by have := hb; omega)).1
theorem Ch.ascii : ∀ n (a u : List UInt8), a.length ≤ n → b0 u < 128 → u ≠ [] → Ch (a ++ u) u := by
  intro n
  induction n with
  | zero => intro a u ha _ _; have : a = [] := List.eq_nil_of_length_eq_zero (by omega); subst this; exact Ch.refl _
  | succ n ih =>
    intro a u ha hb hu
    by_cases h0 : a = []
    · subst h0; exact Ch.refl _
    · have hne : a ++ u ≠ [] := by simp [h0]
      have hp := dw_pos hne
      have hd : dw (a ++ u) ≤ a.length := by
        rcases Nat.lt_or_ge a.length (dw (a ++ u)) with h | h
        · exfalso
          have := unit_bytes hne a.length (List.length_pos_iff.2 h0) h
          unfold bt at this
          rw [List.getD_eq_getElem?_getD, List.getElem?_append_right (Nat.le_refl _), Nat.sub_self, ← List.getD_eq_getElem?_getD] at this
          have hb' : (u.getD 0 0).toNat < 128 := hb
          omega
        · exact h
      have hs := Ch.unit hne
      rw [List.drop_append_of_le_length hd] at hs
      exact hs.trans (ih _ u (by simp; omega) hb hu)
theorem Ch.ascii1 {c : UInt8} (u : List UInt8) (hc : c.toNat < 128) : Ch (c :: u) u := by
  have hb : b0 (c :: u) < 128 := hc
  have := Ch.unit (l := c :: u) (by simp)
  rw [(b0_unit (by simp) hb).1] at this
  exact this
theorem Ch.behind {c : UInt8} (a u : List UInt8) (hc : c.toNat < 128) : Ch (a ++ c :: u) u :=
  (Ch.ascii _ a (c :: u) (Nat.le_refl _) hc (by simp)).trans (Ch.ascii1 u hc)
end Go.Proofs.YtlomjbfhalmalaaGreatDoor.M
set_option linter.unusedVariables false
set_option linter.unusedSimpArgs false
set_option maxRecDepth 100000
namespace Go.Proofs.YtlomjbfhalmalaaGreatDoor.M
open Go Go.Lib
def blk (c : UInt8) : Bool := c == 32 || c == 9 || c == 13 || c == 10
theorem u8_all {P : UInt8 → Prop} (h : ∀ n, n < 256 → P (UInt8.ofNat n)) : ∀ c, P c := fun c => by
  have := h c.toNat (u8_lt c)
  rwa [u8_of rfl] at this
theorem blk_ascii : ∀ c : UInt8, blk c = true → c.toNat < 128 := u8_all (by decide +kernel)
end Go.Proofs.YtlomjbfhalmalaaGreatDoor.M
set_option linter.unusedVariables false
set_option linter.unusedSimpArgs false
set_option maxRecDepth 100000
namespace Go.Proofs.YtlomjbfhalmalaaGreatDoor.M
open Go Go.Lib
theorem Ch.at_ {t : List UInt8} {k : Nat} {c : UInt8} (h : t[k]? = some c) (hc : c.toNat < 128) : Ch t (t.drop (k + 1)) := by
  obtain ⟨hk, he⟩ := List.getElem?_eq_some_iff.1 h
  have e : t = t.take k ++ c :: t.drop (k + 1) := by
    rw [← he, List.getElem_cons_drop, List.take_append_drop]
  have := Ch.behind (t.take k) (t.drop (k + 1)) hc
  rwa [← e] at this
theorem Ch.zero (t : List UInt8) : Ch t (t.drop 0) := Ch.refl t
end Go.Proofs.YtlomjbfhalmalaaGreatDoor.M
set_option linter.unusedVariables false
set_option linter.unusedSimpArgs false
set_option maxRecDepth 100000
namespace Go.Proofs.YtlomjbfhalmalaaGreatDoor.M
open Go Go.Lib
def Stop (z : List UInt8) : Prop := z = [] ∨ ∃ c r, z = c :: r ∧ blk c = true
theorem Stop.b0 {z : List UInt8} (h : Stop z) : b0 z < 128 := by
  rcases h with rfl | ⟨c, r, rfl, hc⟩
  · decide
  · exact blk_ascii c hc
end Go.Proofs.YtlomjbfhalmalaaGreatDoor.M
set_option linter.unusedVariables false
set_option linter.unusedSimpArgs false
set_option maxRecDepth 100000
namespace Go.Proofs.YtlomjbfhalmalaaGreatDoor.M
open Go Go.Lib
end Go.Proofs.YtlomjbfhalmalaaGreatDoor.M
set_option linter.unusedVariables false
set_option linter.unusedSimpArgs false
set_option maxRecDepth 100000
namespace Go.Proofs.YtlomjbfhalmalaaGreatDoor.M
open Go Go.Lib
theorem Stop.ne {z : List UInt8} (hz : Stop z) {c : UInt8} (hc : blk c = false) : z.head? ≠ some c := by
  rcases hz with rfl | ⟨d, r, rfl, hd⟩
  · simp
  · intro e
    simp at e
    rw [e, hc] at hd; cases hd
end Go.Proofs.YtlomjbfhalmalaaGreatDoor.M
set_option linter.unusedVariables false
set_option linter.unusedSimpArgs false
set_option maxRecDepth 100000
namespace Go.Proofs.YtlomjbfhalmalaaGreatDoor.M
open Go Go.Lib
end Go.Proofs.YtlomjbfhalmalaaGreatDoor.M
set_option linter.unusedVariables false
set_option linter.unusedSimpArgs false
set_option maxRecDepth 100000
namespace Go.Proofs.YtlomjbfhalmalaaGreatDoor.M
open Go Go.Lib
end Go.Proofs.YtlomjbfhalmalaaGreatDoor.M
set_option linter.unusedVariables false
namespace Go.Proofs.YtlomjbfhalmalaaGreatDoor.Z
open Go
section
variable {P : Program} {a : Act} {w : World} {Q : Exit → Act → World → Prop}
end
end Go.Proofs.YtlomjbfhalmalaaGreatDoor.Z
set_option linter.unusedVariables false
set_option linter.unusedSimpArgs false
namespace Go.Proofs.YtlomjbfhalmalaaGreatDoor.C
open Go Go.RowKit Go.Proofs.YtlomjbfhalmalaaGreatDoor.M
abbrev bl (s : ByteArray) : List UInt8 := s.data.toList
theorem bl_len (s : ByteArray) : (bl s).length = s.size := (Lib.size_eq s).symm
theorem bl_extract (s : ByteArray) (p : Nat) : bl (s.extract p s.size) = (bl s).drop p := Lib.extract_to_end s p
theorem bl_nonempty {s : ByteArray} {p : Nat} (h : p < s.size) : (bl s).drop p ≠ [] := ne_nil_of_lt (by rw [bl_len]; exact h)
theorem decodeGo_eq {s : ByteArray} {p : Nat} (h : p < s.size) : Lib.decodeGo (s.extract p s.size) = (dc ((bl s).drop p), dw ((bl s).drop p)) := by
  unfold Lib.decodeGo
  have hz : (s.extract p s.size).size = s.size - p := by simp
  rw [if_neg (by omega)]
  have := Lib.decodeL_drop (s.extract p s.size) 0
  rw [← this]
  show Lib.decodeL (List.drop 0 (bl (s.extract p s.size))) = _
  rw [bl_extract]
  rfl
theorem byte_at {s : ByteArray} {p : Nat} (h : p < s.size) : (s[p]'h).toNat = b0 ((bl s).drop p) := by
  unfold b0 bl
  simp only [List.getD_eq_getElem?_getD, List.getElem?_drop, Nat.add_zero]
  have hp : p < s.data.toList.length := by have := Lib.size_eq s; omega
  rw [List.getElem?_eq_getElem hp]
  rfl
theorem decode_rest (s : ByteArray) (p : Nat) (w : World) (hT : Lib.Utf8Tabs 1 2 w) (h : p < s.size) :
    Calls Tryz.prog 57 #[.string (s.extract p s.size)] w fun e w' => e = .returned (.tuple #[.int .i32 (dc ((bl s).drop p) : Nat), .int .i64 (dw ((bl s).drop p) : Nat)]) ∧ Below w.heap.size w w' := by
  have := Tryz.utf8_DecodeRuneInString (s.extract p s.size) w hT
  rw [decodeGo_eq h] at this
  exact this
set_option maxHeartbeats 1000000 in
theorem next_in (s : ByteArray) (p : Nat) (w : World) (hT : Lib.Utf8Tabs 1 2 w) (h : p < s.size) (hs : s.size ≤ 140737488351232) :
    Calls Tryz.prog 34 #[.string s, .int .i64 (p : Nat)] w fun e w' => e = .returned (.tuple #[.int .i32 (pt ((bl s).drop p) : Nat), .int .i64 (dw ((bl s).drop p) : Nat)]) ∧ Below w.heap.size w w' := by
  have hne := bl_nonempty h
  have hf := d_facts hne
  have hb := byte_at h
  have h1 : (p : Int) < s.size := by omega
  have cD := decode_rest s p
  cases hi : ill ((bl s).drop p) with
  | true =>
    have e : dc ((bl s).drop p) = 65533 ∧ dw ((bl s).drop p) = 1 := by simpa [ill] using hi
    have hb2 := ill_b0 hne hi
    have hp : pt ((bl s).drop p) = 1114112 + b0 ((bl s).drop p) := by simp [pt, hi]
    rw [hp, e.2]
    rw [e.1, e.2] at cD
    rw [← hb] at hb2 ⊢
    clear e hp hi hb hf hne
    go_enter Tryz.func34, Tryz.ntmps34
    go_wp2_with (go_at_call 57; refine (cD _ hT h).mono ?_; rintro e w' ⟨rfl, hb⟩)
    go_ret2
    exact ⟨rfl, hb⟩
  | false =>
    have hd : ¬ (dc ((bl s).drop p) = 65533 ∧ dw ((bl s).drop p) = 1) := by simpa [ill] using hi
    have hp : pt ((bl s).drop p) = dc ((bl s).drop p) := by simp [pt, hi]
    rw [hp]
    generalize dc ((bl s).drop p) = c at *
    generalize dw ((bl s).drop p) = k at *
    clear hp hi hb hne
    by_cases h2 : c = 65533
    · have h3 : ((k : Int) == 1) = false := beq_eq_false_iff_ne.2 (by omega)
      have h4 : ((c : Int) == 65533) = true := beq_iff_eq.2 (by omega)
      clear hf hd h2
      go_enter Tryz.func34, Tryz.ntmps34
      go_wp2_with (go_at_call 57; refine (cD _ hT h).mono ?_; rintro e w' ⟨rfl, hb⟩)
      go_ret2
      exact ⟨rfl, hb⟩
    · have h4 : ((c : Int) == 65533) = false := beq_eq_false_iff_ne.2 (by omega)
      clear hf hd h2
      go_enter Tryz.func34, Tryz.ntmps34
      go_wp2_with (go_at_call 57; refine (cD _ hT h).mono ?_; rintro e w' ⟨rfl, hb⟩)
      go_ret2
      exact ⟨rfl, hb⟩
end Go.Proofs.YtlomjbfhalmalaaGreatDoor.C
set_option linter.unusedVariables false
set_option linter.unusedSimpArgs false
namespace Go.Proofs.YtlomjbfhalmalaaGreatDoor.C
open Go Go.RowKit Go.Proofs.YtlomjbfhalmalaaGreatDoor.M
def Row (w : World) (base : Nat) (e : TypeId) (k : IntKind) (v : Value) (xs : List Int) : Prop := w.ownsRow base e 1 v xs.length (xs.map (Value.int k))
theorem fffd_prefix {t : List UInt8} (h : t ≠ []) (hc : dc t = 65533) : Lib.hasPrefix t [239, 191, 189] = !(ill t) := by
  have e3 : enc 65533 = [239, 191, 189] := by decide
  cases hi : ill t with
  | false =>
    have ht := take_enc h hi
    have hw : dw t = 3 := by
      have := (d_facts h).2.2.2.2.2.2 hc
      have h2 : ¬ (dc t = 65533 ∧ dw t = 1) := by simpa [ill] using hi
      omega
    rw [hc, e3, hw] at ht
    show List.isPrefixOf [239, 191, 189] t = true
    rw [List.isPrefixOf_iff_prefix]
    exact ⟨t.drop 3, by rw [← ht]; exact List.take_append_drop 3 t⟩
  | true =>
    show List.isPrefixOf [239, 191, 189] t = false
    rw [Bool.eq_false_iff]
    intro hp
    rw [List.isPrefixOf_iff_prefix] at hp
    obtain ⟨r, hr⟩ := hp
    have := dw_enc (c := 65533) (by unfold okc; omega) r
    rw [e3, hr] at this
    have h2 : dc t = 65533 ∧ dw t = 1 := by simpa [ill] using hi
    simp at this
    omega
theorem cell_modify {w : World} {B : Nat} {cur : Array Value} {e : TypeId} (h : w.heap[B]? = some (.cells cur e (0, 0))) (j : Nat) (u : Value) :
    (w.setCell ⟨B, j, none⟩ u).heap[B]? = some (.cells (cur.setIfInBounds j u) e (0, 0)) := by
  simp [World.setCell, Array.getElem?_modify, h]
theorem frozen_cells {w : World} {B : Nat} {cur : Array Value} {e : TypeId} (h : w.heap[B]? = some (.cells cur e (0, 0))) (j : Nat) : w.frozen? ⟨B, j, none⟩ = false := by
  simp [World.frozen?, h]
theorem w32 {x : Int} (h0 : -2147483648 ≤ x) (h1 : x ≤ 2147483647) : wrap32 x = x := by unfold wrap32; omega
theorem w64 {x : Int} (h0 : -9223372036854775808 ≤ x) (h1 : x ≤ 9223372036854775807) : wrap64 x = x := by unfold wrap64; omega
def mixed (pre rest : List (List UInt8)) : List Int := (pre.map fun t => (pt t : Int)) ++ rest.map fun t => (dc t : Int)
theorem mixed_same {pre rest : List (List UInt8)} {t : List UInt8} (h : ill t = false) : mixed (pre ++ [t]) rest = mixed pre (t :: rest) := by
  simp [mixed, pt, h]
theorem mixed_set {pre rest : List (List UInt8)} {t : List UInt8} : mixed (pre ++ [t]) rest = (mixed pre (t :: rest)).set pre.length (pt t : Int) := by
  simp [mixed, List.set_append]
set_option maxHeartbeats 4000000 in
set_option maxRecDepth 1000000 in
theorem of_any (s : ByteArray) (w : World) (hs : s.size ≤ 140737488351232) (h46 : (sfx (bl s)).length ≤ 70368744177664) :
    Calls Tryz.prog 24 #[.string s] w fun e w' => ∃ v, e = .returned v ∧ Row w' w.heap.size 21 .i32 v (pts (bl s)) ∧ Below w.heap.size w w' := by
  have hsz : (Conv.runesFrom s s.size 0 #[]).size = (sfx (bl s)).length := conv_runes_size s
  have hli : (Conv.runesFrom s s.size 0 #[]).toList = (runes (bl s)).map (Value.int .i32) := conv_runes s
  have hle := sfx_len (bl s)
  have hbl := bl_len s
  have hcv := run_runes_of_string (P := Tryz.prog) w 9 43 21 s Tryz.underlying9 Tryz.underlying43 Tryz.underlying21 (by omega)
  obtain ⟨n, hn⟩ : ∃ n, (Conv.runesFrom s s.size 0 #[]).size = n := ⟨_, rfl⟩
  rw [hn] at hcv
  have hge := grownCap_ge w n 0 21
  have hn46 : n ≤ 70368744177664 := by omega
  have h9 : n ≤ maxLen := by unfold maxLen; omega
  clear h46
  have hlm := grownCap_le_maxLen w n 0 21 h9
  obtain ⟨cap, hcap⟩ : ∃ cap, grownCap w n 0 21 = cap := ⟨_, rfl⟩
  rw [hcap] at hcv hge hlm
  obtain ⟨cur, hcur⟩ : ∃ cur, Conv.runesFrom s s.size 0 #[] ++ Array.replicate (cap - n) (Value.int .i32 0) = cur := ⟨_, rfl⟩
  rw [hcur] at hcv
  have hcs : cur.size = cap := by rw [← hcur]; simp; omega
  have hct : cur.toList.take n = (mixed [] (sfx (bl s))).map (Value.int .i32) := by
    rw [← hcur]
    simp only [Array.toList_append, Array.toList_replicate]
    rw [List.take_append_of_le_length (by simp; omega), List.take_of_length_le (by simp; omega), hli]
    rfl
  have hns : n = (sfx (bl s)).length := by rw [← hn, hsz]
  have Hns := Lib.hid hns
  have Hcs := Lib.hid hcs
  have Hct := Lib.hid hct
  have Hbl := Lib.hid hbl
  clear hsz hli hcap hcur hn hns hcs hct hbl hle h9
  go_enter Tryz.func24, Tryz.ntmps24
  go_wp2
  go_loopw [4] (fun kv wr => ∃ (pos : Nat) (pre : List (List UInt8)) (cu : Array Value), kv = .int .i64 pre.length ∧ Hid (sfx (bl s) = pre ++ sfx ((bl s).drop pos)) ∧ wr.heap[w.heap.size + 1]? = some (.stringIter s pos) ∧
      wr.heap[w.heap.size]? = some (.cells cu 21 (0, 0)) ∧ Hid (cu.size = cap) ∧ Hid (cu.toList.take n = (mixed pre (sfx ((bl s).drop pos))).map (Value.int .i32)) ∧ Below w.heap.size w wr) (fun _ wr => s.size - wr.iterPos (w.heap.size + 1))
  case atStart =>
    refine ⟨0, [], cur, rfl, by simp [Hid], ?_, ?_, Hcs, by rw [List.drop_zero]; exact Hct, ?_⟩
    · simpa using World.iter_heap ((w.alloc (.cells cur 21)).drew) s 0
    · have h1 := heap_alloc_new w (.cells cur 21)
      exact (Below.heap_alloc ((w.alloc (.cells cur 21)).drew) (.stringIter s 0) w.heap.size (by simp)).trans h1
    · exact (((Below.refl _ w).alloc (Nat.le_refl _) _).drew).alloc (by simp) _
  case round =>
    obtain ⟨pos, pre, cu, rfl, hpre, hit, hblk, hcu, htk, hbw⟩ := hrel
    have hszw : w.heap.size + 1 < wr.heap.size := (Array.getElem?_eq_some_iff.1 hit).1
    by_cases hp : pos < s.size
    · obtain ⟨t, ht⟩ : ∃ t, (bl s).drop pos = t := ⟨_, rfl⟩
      have hne : t ≠ [] := by rw [← ht]; exact bl_nonempty hp
      have hd : Utf8.decode s pos = (dc t, dw t) := by rw [← ht]; exact (Lib.decodeL_drop s pos).symm
      have hb0 : (s[pos]'hp).toNat = b0 t := by rw [← ht]; exact byte_at hp
      have hnx : ∀ ty, (Instr.next (.pointer (some ⟨w.heap.size + 1, 0, none⟩)) true ty).run Tryz.prog wr = .ok (.tuple #[.bool true, .int .i64 pos, .int .i32 (dc t : Nat)]) (wr.iterAt (w.heap.size + 1) s (pos + dw t)) := fun ty => by
        have := Lib.run_next_any_at (P := Tryz.prog) wr (w.heap.size + 1) s pos ty hit hp
        rw [hd] at this
        exact this
      have hw1 := dw_pos hne
      have hw2 := dw_len hne
      have hdrop : (bl s).drop (pos + dw t) = t.drop (dw t) := by rw [← ht, List.drop_drop]
      have hsx : sfx ((bl s).drop pos) = t :: sfx ((bl s).drop (pos + dw t)) := by rw [ht, sfx_cons hne, hdrop]
      have hkn : pre.length < n := by
        have h1 := Hns.out
        have h2 := hpre.out
        rw [hsx] at h2
        rw [h1, h2]; simp
      have hpre2 : Hid (sfx (bl s) = (pre ++ [t]) ++ sfx ((bl s).drop (pos + dw t))) := by
        show sfx (bl s) = _
        rw [hpre.out, hsx]; simp
      have hcl : cu.size = cap := hcu.out
      have htk2 : Hid (cu.toList.take n = (mixed pre (t :: sfx ((bl s).drop (pos + dw t)))).map (Value.int .i32)) := by
        have := htk.out
        rw [hsx] at this
        exact this
      have hHP := Tryz.strings_HasPrefix (s.extract pos s.size) ⟨#[239, 191, 189]⟩ (wr.iterAt (w.heap.size + 1) s (pos + dw t))
      have hbx : bl (s.extract pos s.size) = t := by rw [bl_extract, ht]
      have hit2 := Lib.iterAt_heap wr (w.heap.size + 1) s pos (pos + dw t) hit
      have hblk2 : (wr.iterAt (w.heap.size + 1) s (pos + dw t)).heap[w.heap.size]? = some (.cells cu 21 (0, 0)) := (Lib.iterAt_other wr (w.heap.size + 1) w.heap.size s (pos + dw t) (by omega)).trans hblk
      have hbw2 : Below w.heap.size w (wr.iterAt (w.heap.size + 1) s (pos + dw t)) := Lib.below_iterAt hbw (by omega) s _
      have hp1 : (pos : Int) < s.size := by omega
      have hknI : (pre.length : Int) < n := by omega
      obtain ⟨old, hcell⟩ : ∃ old, (wr.iterAt (w.heap.size + 1) s (pos + dw t)).cell? ⟨w.heap.size, pre.length, none⟩ = some old := by
        rw [cell_of_row _ _ _ _ _ _ hblk2]
        exact ⟨cu[pre.length]'(by omega), Array.getElem?_eq_getElem _⟩
      have hfr := frozen_cells hblk2 pre.length
      have hm : s.size - (pos + dw t) < s.size - pos := by omega
      have hpl : pos + dw t ≤ s.size := by
        have h1 := Hbl.out
        have h2 := congrArg List.length ht
        simp at h2
        omega
      have Hhd := Lib.hid hd
      have Hb0 := Lib.hid hb0
      have Hhit := Lib.hid hit
      have Hblk := Lib.hid hblk
      have Hcl := Lib.hid hcl
      have Hht := Lib.hid ht
      have Hdr := Lib.hid hdrop
      have Hbx := Lib.hid hbx
      have Hsx := Lib.hid hsx
      have Hblk2 := Lib.hid hblk2
      have Hit2 := Lib.hid hit2
      cases hi : ill t with
      | true =>
        have e : dc t = 65533 := by
          have : dc t = 65533 ∧ dw t = 1 := by simpa [ill] using hi
          exact this.1
        have hpf : Lib.hasPrefix (s.extract pos s.size).data.toList (⟨#[239, 191, 189]⟩ : ByteArray).data.toList = false := by
          show Lib.hasPrefix (bl (s.extract pos s.size)) [239, 191, 189] = false
          rw [Hbx.out, fffd_prefix hne e, hi]; rfl
        rw [hpf] at hHP
        have hpt : pt t = 1114112 + b0 t := by simp [pt, hi]
        have Hpt := Lib.hid hpt
        have Hi := Lib.hid hi
        have e2 : ((dc t : Nat) : Int) = 65533 := by omega
        rw [e2] at hnx
        clear hd hb0 hit hblk hcl ht hdrop hbx hsx hblk2 hit2 hpf hpt hi e e2
        go_wp2_with (go_at_call 54; refine hHP.mono ?_; rintro e w' ⟨rfl, rfl⟩)
        go_roundw
        case rel =>
          have hpt' : ((1114112 + (s[pos]'hp).toNat : Nat) : Int) = (pt t : Nat) := by rw [Hpt.out, Hb0.out]
          refine ⟨pos + dw t, pre ++ [t], _, by simp, hpre2, ?_, cell_modify Hblk2.out _ _, ?_, ?_, hbw2.setCell (Nat.le_refl _) _⟩
          · rw [Below.heap_setCell _ _ _ _ (by simp)]
            exact Hit2.out
          · show _ = cap
            rw [Array.size_setIfInBounds]; exact Hcl.out
          · show List.take n (cu.setIfInBounds _ _).toList = _
            have hbt : (s[pos]'hp).toNat < 256 := (s[pos]'hp).toNat_lt
            rw [mixed_set, List.map_set, ← htk2.out, Array.toList_setIfInBounds, List.take_set, ← hpt', w32 (x := ((s[pos]'hp).toNat : Int)) (by omega) (by omega), w32 (by omega) (by omega)]
            simp
        case measure =>
          have h2 := fun u => (Below.heap_setCell (wr.iterAt (w.heap.size + 1) s (pos + dw t)) ⟨w.heap.size, pre.length, none⟩ u (w.heap.size + 1) (by simp)).trans Hit2.out
          simp only [World.iterPos, h2, Hhit.out]
          exact hm
      | false =>
        have Hi := Lib.hid hi
        by_cases e : dc t = 65533
        · have hpf : Lib.hasPrefix (s.extract pos s.size).data.toList (⟨#[239, 191, 189]⟩ : ByteArray).data.toList = true := by
            show Lib.hasPrefix (bl (s.extract pos s.size)) [239, 191, 189] = true
            rw [Hbx.out, fffd_prefix hne e, hi]; rfl
          rw [hpf] at hHP
          have e2 : ((dc t : Nat) : Int) = 65533 := by omega
          rw [e2] at hnx
          clear hd hb0 hit hblk hcl ht hdrop hbx hsx hblk2 hit2 hpf hi e e2 hcell hfr
          go_wp2_with (go_at_call 54; refine hHP.mono ?_; rintro e w' ⟨rfl, rfl⟩)
          go_roundw
          case rel =>
            exact ⟨pos + dw t, pre ++ [t], _, by simp, hpre2, Hit2.out, Hblk2.out, Hcl.out, by rw [mixed_same Hi.out]; exact htk2, hbw2⟩
          case measure =>
            simp only [World.iterPos, Hit2.out, Hhit.out]
            exact hm
        · have e2 : (((dc t : Nat) : Int) == 65533) = false := beq_eq_false_iff_ne.2 (by omega)
          clear hd hb0 hit hblk hcl ht hdrop hbx hsx hblk2 hit2 hi e hcell hfr hHP
          go_wp2
          go_roundw
          case rel =>
            exact ⟨pos + dw t, pre ++ [t], _, by simp, hpre2, Hit2.out, Hblk2.out, Hcl.out, by rw [mixed_same Hi.out]; exact htk2, hbw2⟩
          case measure =>
            simp only [World.iterPos, Hit2.out, Hhit.out]
            exact hm
    · have hnx : ∀ ty, (Instr.next (.pointer (some ⟨w.heap.size + 1, 0, none⟩)) true ty).run Tryz.prog wr = _ := fun ty => Lib.run_next_end_at wr (w.heap.size + 1) s pos ty hit hp
      have hend : (bl s).drop pos = [] := List.drop_eq_nil_of_le (by have := Hbl.out; omega)
      have hcl : cu.size = cap := hcu.out
      have hpe : sfx (bl s) = pre := by have := hpre.out; rw [hend, sfx_nil, List.append_nil] at this; exact this
      have htn : cu.toList.take n = (pts (bl s)).map (Value.int .i32) := by
        have := htk.out
        rw [hend, sfx_nil, ← hpe] at this
        rw [this]; simp [mixed, pts]
      have hnp : (pts (bl s)).length = n := by rw [Hns.out]; simp [pts]
      have hrow : Row wr w.heap.size 21 .i32 (.slice (some ⟨w.heap.size, 0, none⟩) n cap) (pts (bl s)) := by
        refine ⟨by simp, .inr ⟨w.heap.size, cap, cu, by rw [hnp], Nat.le_refl _, hblk, by omega, hlm, by omega, ?_⟩⟩
        rw [hnp, Nat.mul_one]; exact htn
      clear hend hcl hpe htn hnp hit hblk
      go_wp2
      go_ret
      exact ⟨_, rfl, hrow, hbw⟩
end Go.Proofs.YtlomjbfhalmalaaGreatDoor.C
set_option linter.unusedVariables false
set_option linter.unusedSimpArgs false
namespace Go.Proofs.YtlomjbfhalmalaaGreatDoor.C
open Go Go.RowKit Go.Proofs.YtlomjbfhalmalaaGreatDoor.M
def Rd (w : World) (B : Nat) (k : IntKind) (A : Option Addr) (xs : List Int) : Prop :=
  xs = [] ∨ ∃ x : Addr, A = some x ∧ x.block < B ∧ ∀ j u, xs[j]? = some u → w.cell? (x.add j) = some (.int k u)
theorem add_block (a : Addr) (n : Nat) : (a.add n).block = a.block := by unfold Addr.add; split <;> rfl
theorem Rd.below {w w' : World} {B B' : Nat} {k : IntKind} {A : Option Addr} {xs : List Int} (h : Rd w B k A xs) (hb : Below B' w w') (hB : B ≤ B') : Rd w' B k A xs := by
  rcases h with h | ⟨x, e, hlt, hc⟩
  · exact .inl h
  · exact .inr ⟨x, e, hlt, fun j u hj => (hb.cell (p := x.add j) (by rw [add_block]; omega)).trans (hc j u hj)⟩
theorem Rd.more {w : World} {B B' : Nat} {k : IntKind} {A : Option Addr} {xs : List Int} (h : Rd w B k A xs) (hB : B ≤ B') : Rd w B' k A xs := by
  rcases h with h | ⟨x, e, hlt, hc⟩
  · exact .inl h
  · exact .inr ⟨x, e, by omega, hc⟩
def bcells (bs : List UInt8) : List Value := bs.map fun b => Value.int .u8 (b.toNat : Int)
theorem bcells_append (a b : List UInt8) : bcells (a ++ b) = bcells a ++ bcells b := by simp [bcells]
theorem Tryz.infoByte : (Tryz.prog.info? 5).map (fun i => (i.zero, i.size, i.bytes)) = some (some (.int .u8 0), 1, 1) := by kernel_rfl
end Go.Proofs.YtlomjbfhalmalaaGreatDoor.C
set_option linter.unusedVariables false
set_option linter.unusedSimpArgs false
namespace Go.Proofs.YtlomjbfhalmalaaGreatDoor.E
open Go Go.RowKit Go.Extern.Stop Go.Stop Go.Extern
theorem typeOfNo (v : Value) (w : World) : (ReflectliteType.typeOf #[.iface 62 v]).run Tryz.prog w = .ok (.iface 123 (.agg #[.pointer (some ⟨4, 62, none⟩)])) w := by kernel_rfl
theorem comparableNo (w : World) : ((ReflectliteType.method fun t => do Rtype.noPackHeld "Comparable" t; (fun a => Value.bool a.comparable) <$> typeInfo t) #[.agg #[.pointer (some ⟨4, 62, none⟩)]]).run Tryz.prog w = .ok (.bool true) w := by kernel_rfl
theorem methodComparable (v : Value) (w : World) : (Go.method 305 123 v "Comparable").run Tryz.prog w = .ok (167, v) w := by kernel_rfl
theorem noIsF (v : Value) (xT : TypeId) (w : World) : (Instr.typeAssert (.iface 74 v) xT 156 true).run Tryz.prog w = .ok (.tuple #[.nilIface, .bool false]) w := run_typeAssert_lacksB Tryz.underlying156 (by kernel_rfl) (by kernel_rfl) v xT w
theorem noIsN (v : Value) (xT : TypeId) (w : World) : (Instr.typeAssert (.iface 62 v) xT 156 true).run Tryz.prog w = .ok (.tuple #[.nilIface, .bool false]) w := run_typeAssert_lacksB Tryz.underlying156 (by kernel_rfl) (by kernel_rfl) v xT w
theorem hasUnwrapF (v : Value) (xT : TypeId) (w : World) : (Instr.typeAssert (.iface 74 v) xT 130 true).run Tryz.prog w = .ok (.tuple #[.iface 74 v, .bool true]) w := run_typeAssert_hasB Tryz.underlying130 (by kernel_rfl) v xT w
theorem noUnwrapN (v : Value) (xT : TypeId) (w : World) : (Instr.typeAssert (.iface 62 v) xT 130 true).run Tryz.prog w = .ok (.tuple #[.nilIface, .bool false]) w := run_typeAssert_lacksB Tryz.underlying130 (by kernel_rfl) (by kernel_rfl) v xT w
theorem noUnwrapsN (v : Value) (xT : TypeId) (w : World) : (Instr.typeAssert (.iface 62 v) xT 132 true).run Tryz.prog w = .ok (.tuple #[.nilIface, .bool false]) w := run_typeAssert_lacksB Tryz.underlying132 (by kernel_rfl) (by kernel_rfl) v xT w
theorem methodUnwrap (v : Value) (w : World) : (Go.method 305 74 v "Unwrap").run Tryz.prog w = .ok (161, v) w := by kernel_rfl
theorem infoNo : (Tryz.prog.info? 62).map (·.comparable) = some true := by kernel_rfl
theorem run_eql_iface_int {P : Program} (w : World) {ti tn : TypeId} {ms : Array (String × TypeId)} {i : TypeInfo} {k : IntKind} (a b : Int)
    (hi : P.underlying ti = some (.interface ms)) (hn : P.underlying tn = some (.int k)) (hinfo : P.info? tn = some i) (hcomp : i.comparable = true) :
    (binOp .eql ti (.iface tn (.int k a)) (.iface tn (.int k b))).run P w = .ok (.bool (a == b)) w := by
  have h : ∀ d : Nat, (Op.equalIn (d + 2) ti (.iface tn (.int k a)) (.iface tn (.int k b))).run P w = .ok (a == b) w := fun d => by
    simp [Op.equalIn, run_underlying hi, run_underlying hn, typeInfo, hinfo, hcomp]
  simp only [binOp]
  simp [Op.equal, Op.maxDepth, h 9998]
abbrev flt (no line at_ : Int) : Value := .iface 74 (.agg #[.int .i64 no, .int .i64 line, .int .i64 at_])
abbrev erno (n : Int) : Value := .iface 62 (.int .i64 n)
set_option maxHeartbeats 4000000 in
set_option maxRecDepth 1000000 in
theorem is_fault (no line at_ n : Int) (w : World) :
    Calls Tryz.prog 65 #[flt no line at_, erno n] w fun e w' => e = .returned (.bool (no == n)) ∧ Below w.heap.size w w' := by
  obtain ⟨i, hi, hcmp⟩ := Option.map_eq_some_iff.1 infoNo
  have h1 := @run_callFunc_extern Tryz.prog 87 _ ReflectliteType.typeOf Tryz.func87 (by kernel_rfl) (by kernel_rfl) (by kernel_rfl) (by kernel_rfl)
  have h2 := @run_callFunc_extern Tryz.prog 167 _ (ReflectliteType.method fun t => do Rtype.noPackHeld "Comparable" t; pure (.bool (← typeInfo t).comparable)) Tryz.func167 (by kernel_rfl) (by kernel_rfl) (by kernel_rfl) (by kernel_rfl)
  have tT := typeOfNo
  have cT := comparableNo
  have mR := methodComparable
  have nE := noIsF
  have nN := noIsN
  have uF := hasUnwrapF
  have uN := noUnwrapN
  have vN := noUnwrapsN
  have mU := methodUnwrap
  have heq := fun W : World => run_eql_iface_int (P := Tryz.prog) W no n Tryz.underlying30 Tryz.underlying62 hi hcmp
  have hty := run_eql_iface_types (P := Tryz.prog) 74 62 (.agg #[.int .i64 no, .int .i64 line, .int .i64 at_]) (.int .i64 n) Tryz.underlying30 (by decide) w
  obtain ⟨b, hb⟩ : ∃ b, (no == n) = b := ⟨_, rfl⟩
  simp only [hb] at heq ⊢
  clear hb
  cases b
  all_goals
    go_enter Tryz.func65, Tryz.ntmps65
    go_wp2
    refine wp_loop_rounds 2 ?_
    rw [rounds_succ]
    go_wp2
    rw [rounds_succ]
    go_wp2
    go_ret
    exact ⟨rfl, (Below.refl _ _).alloc (Nat.le_refl _) _⟩
theorem valueOfP (t : Addr) (w : World) : (ReflectliteValue.unpack (.iface 77 (.pointer (some t)))).run Tryz.prog w
    = .ok (.agg #[.pointer (some ⟨4, 77, none⟩), .pointer (some ⟨w.heap.size, 0, none⟩), .int .u64 150]) (w.alloc (.cells #[.pointer (some t)] 77)) := by kernel_rfl
theorem typeP (a : Addr) (w : World) : (ReflectliteValue.methodAny (ReflectliteValue.valueError "reflectlite.Value.Type" 0) (fun t _ _ _ => ReflectliteType.toType t) #[.agg #[.pointer (some ⟨4, 77, none⟩), .pointer (some a), .int .u64 150]]).run Tryz.prog w
    = .ok (.iface 123 (.agg #[.pointer (some ⟨4, 77, none⟩)])) w := by kernel_rfl
theorem methodElem (h : Value) (w : World) : (Go.method 305 123 (.agg #[h]) "Elem").run Tryz.prog w = .ok (168, .agg #[h]) w := by kernel_rfl
theorem methodImplements (h : Value) (w : World) : (Go.method 305 123 (.agg #[h]) "Implements").run Tryz.prog w = .ok (169, .agg #[h]) w := by kernel_rfl
theorem methodAssignableTo (h : Value) (w : World) : (Go.method 305 123 (.agg #[h]) "AssignableTo").run Tryz.prog w = .ok (166, .agg #[h]) w := by kernel_rfl
theorem methodKind (h : Value) (w : World) : (Go.method 305 123 (.agg #[h]) "Kind").run Tryz.prog w = .ok (155, h) w := by kernel_rfl
theorem kindP (w : World) : ((ReflectliteType.abiMethod fun t => (fun a : Nat => Value.int IntKind.u8 (a : Int)) <$> Rtype.kind t) #[.pointer (some ⟨4, 77, none⟩)]).run Tryz.prog w = .ok (.int .u8 22) w := by kernel_rfl
theorem kindF (w : World) : ((ReflectliteType.abiMethod fun t => (fun a : Nat => Value.int IntKind.u8 (a : Int)) <$> Rtype.kind t) #[.pointer (some ⟨4, 74, none⟩)]).run Tryz.prog w = .ok (.int .u8 25) w := by kernel_rfl
theorem elemP (w : World) : (ReflectliteType.method ReflectliteType.elem #[.agg #[.pointer (some ⟨4, 77, none⟩)]]).run Tryz.prog w = .ok (.iface 123 (.agg #[.pointer (some ⟨4, 74, none⟩)])) w := by kernel_rfl
theorem implementsF (w : World) : (ReflectliteType.relation "Implements" ReflectliteType.implements_ #[.agg #[.pointer (some ⟨4, 74, none⟩)], .iface 123 (.agg #[.pointer (some ⟨4, 30, none⟩)])]).run Tryz.prog w = .ok (.bool true) w := by kernel_rfl
theorem typeOfF (v : Value) (w : World) : (ReflectliteType.typeOf #[.iface 74 v]).run Tryz.prog w = .ok (.iface 123 (.agg #[.pointer (some ⟨4, 74, none⟩)])) w := by kernel_rfl
theorem assignableF (w : World) : (ReflectliteType.relation "AssignableTo" ReflectliteType.assignableTo #[.agg #[.pointer (some ⟨4, 74, none⟩)], .iface 123 (.agg #[.pointer (some ⟨4, 74, none⟩)])]).run Tryz.prog w = .ok (.bool true) w := by kernel_rfl
theorem valueOfF (a b c : Value) (w : World) : (ReflectliteValue.unpack (.iface 74 (.agg #[a, b, c]))).run Tryz.prog w
    = .ok (.agg #[.pointer (some ⟨4, 74, none⟩), .pointer (some ⟨w.heap.size, 0, none⟩), .int .u64 153]) (w.alloc (.cells #[a, b, c] 74)) := by kernel_rfl
theorem rlm (z : Sem Value) (f : TypeId → Addr → Nat → Nat → Sem Value) (v : Value) :
    ReflectliteValue.method z f #[v] = (do match ← ReflectliteValue.parts v with | none => z | some (t, a, fl) => f t a fl (fl % 32)) := rfl
theorem partsP (a : Addr) (w : World) : (ReflectliteValue.parts (.agg #[.pointer (some ⟨4, 77, none⟩), .pointer (some a), .int .u64 150])).run Tryz.prog w = .ok (some (77, a, 150)) w := by kernel_rfl
theorem isNilP (a p : Addr) (W : World) (ha : W.cell? a = some (.pointer (some p))) :
    (ReflectliteValue.method (ReflectliteValue.valueError "reflectlite.Value.IsNil" 0) ReflectliteValue.isNil #[.agg #[.pointer (some ⟨4, 77, none⟩), .pointer (some a), .int .u64 150]]).run Tryz.prog W = .ok (.bool false) W := by
  rw [rlm]
  simp only [Sem.run_bind, partsP, Result.andThen]
  simp [ReflectliteValue.isNil, loadVar, isAgg, underlying, Tryz.underlying77, ha, Result.andThen]
theorem elemOfP (w : World) : (Rtype.elem? 77).run Tryz.prog w = .ok (some 74) w := by kernel_rfl
theorem mkF (p : Addr) (w : World) : (ReflectliteValue.mk 74 p ReflectliteValue.flagAddr).run Tryz.prog w = .ok (.agg #[.pointer (some ⟨4, 74, none⟩), .pointer (some p), .int .u64 409]) w := by kernel_rfl
theorem elemVP (a p : Addr) (W : World) (ha : W.cell? a = some (.pointer (some p))) :
    (ReflectliteValue.method (ReflectliteValue.valueError "reflectlite.Value.Elem" 0) ReflectliteValue.elem #[.agg #[.pointer (some ⟨4, 77, none⟩), .pointer (some a), .int .u64 150]]).run Tryz.prog W
      = .ok (.agg #[.pointer (some ⟨4, 74, none⟩), .pointer (some p), .int .u64 409]) W := by
  rw [rlm]
  simp only [Sem.run_bind, partsP, Result.andThen]
  simp [ReflectliteValue.elem, loadVar, isAgg, underlying, Tryz.underlying77, ha, Result.andThen, elemOfP, mkF]
theorem rls (v x : Value) : ReflectliteValue.set #[v, x] = (do
    let (some (dst, a, fl), some (src, b, _)) := (← ReflectliteValue.parts v, ← ReflectliteValue.parts x)
      | unsupported (.noEntry "extern/(internal/reflectlite.Value).Set.zeroValue")
    if fl / ReflectliteValue.flagAddr % 2 == 0 then unsupported (.noEntry "extern/(internal/reflectlite.Value).Set.unaddressable")
    let val ← loadVar src b
    if ← Rtype.directlyAssignable dst src then storeVar dst a val
    else if ← Rtype.implements dst src then
      if (← Rtype.kind src) == 20 then
        match val with
        | .nilIface => unsupported (.noEntry "extern/reflectlite: a nil value of one interface type handed on as a value of another")
        | _ => storeVar dst a val
      else storeVar dst a (.iface src val)
    else panicString ("reflectlite.Set: value of type " ++ (← Rtype.spelt src) ++ " is not assignable to type " ++ (← Rtype.spelt dst))
    pure (.tuple #[])) := rfl
theorem partsFa (a : Addr) (w : World) : (ReflectliteValue.parts (.agg #[.pointer (some ⟨4, 74, none⟩), .pointer (some a), .int .u64 409])).run Tryz.prog w = .ok (some (74, a, 409)) w := by kernel_rfl
theorem partsF (a : Addr) (w : World) : (ReflectliteValue.parts (.agg #[.pointer (some ⟨4, 74, none⟩), .pointer (some a), .int .u64 153])).run Tryz.prog w = .ok (some (74, a, 153)) w := by kernel_rfl
theorem directF (w : World) : (Rtype.directlyAssignable 74 74).run Tryz.prog w = .ok true w := by kernel_rfl
theorem sizeF : (Tryz.prog.info? 74).map (·.size) = some 3 := by kernel_rfl
end Go.Proofs.YtlomjbfhalmalaaGreatDoor.E
set_option linter.unusedVariables false
set_option linter.unusedSimpArgs false
namespace Go.Proofs.YtlomjbfhalmalaaGreatDoor.E
open Go Go.RowKit Go.Extern.Stop Go.Stop Go.Extern
theorem setF (T b : Nat) (old : Array Value) (x y z : Value) (W : World) (hx : x.oneCell' = true) (hy : y.oneCell' = true) (hz : z.oneCell' = true)
    (hb : W.heap[b]? = some (.cells #[x, y, z] 74 (0, 0))) (hT : W.heap[T]? = some (.cells old 74 (0, 0))) (ho : old.size = 3) :
    (ReflectliteValue.set #[.agg #[.pointer (some ⟨4, 74, none⟩), .pointer (some ⟨T, 0, none⟩), .int .u64 409], .agg #[.pointer (some ⟨4, 74, none⟩), .pointer (some ⟨b, 0, none⟩), .int .u64 153]]).run Tryz.prog W
      = .ok (.tuple #[]) (W.setRow T #[x, y, z]) := by
  have h1 := run_loadVar_row (P := Tryz.prog) W b 74 74 #[x, y, z] (0, 0) _ hb Tryz.underlying74 rfl sizeF
  have h2 := run_storeVar_row (P := Tryz.prog) W T 74 74 old #[x, y, z] hT sizeF (by rw [ho]; rfl) (by simp [hx, hy, hz])
  rw [rls]
  simp only [Sem.run_bind, partsFa, partsF, Result.andThen]
  simp [ReflectliteValue.flagAddr, h1, h2, directF, Result.andThen]
structure AsPost (T : Nat) (x y z : Value) (w : World) (e : Ending) (w' : World) : Prop where
  ret : e = .returned (.bool true)
  blk : w'.heap[T]? = some (.cells #[x, y, z] 74 (0, 0))
  grown : w.grownBy w' (some T)
set_option maxHeartbeats 4000000 in
set_option maxRecDepth 1000000 in
theorem as_fault (T : Nat) (old : Array Value) (no line at_ : Int) (w : World) (hg : w.cell? ⟨0, 0, none⟩ = some (.iface 123 (.agg #[.pointer (some ⟨4, 30, none⟩)])))
    (hT : w.heap[T]? = some (.cells old 74 (0, 0))) (ho : old.size = 3) :
    Calls Tryz.prog 47 #[flt no line at_, .iface 77 (.pointer (some ⟨T, 0, none⟩))] w (AsPost T (.int .i64 no) (.int .i64 line) (.int .i64 at_) w) := by
  have e1 := @run_callFunc_extern Tryz.prog 66 _ (fun args => ReflectliteValue.unpack (args.getD 0 (.tuple #[]))) Tryz.func66 (by kernel_rfl) (by kernel_rfl) (by kernel_rfl) (by kernel_rfl)
  have e2 := @run_callFunc_extern Tryz.prog 67 _ (ReflectliteValue.methodAny (ReflectliteValue.valueError "reflectlite.Value.Type" 0) (fun t _ _ _ => ReflectliteType.toType t)) Tryz.func67 (by kernel_rfl) (by kernel_rfl) (by kernel_rfl) (by kernel_rfl)
  have e3 := @run_callFunc_extern Tryz.prog 68 _ (ReflectliteValue.method (ReflectliteValue.valueError "reflectlite.Value.IsNil" 0) ReflectliteValue.isNil) Tryz.func68 (by kernel_rfl) (by kernel_rfl) (by kernel_rfl) (by kernel_rfl)
  have e4 := @run_callFunc_extern Tryz.prog 155 _ (ReflectliteType.abiMethod fun t => do pure (.int .u8 (← Rtype.kind t))) Tryz.func155 (by kernel_rfl) (by kernel_rfl) (by kernel_rfl) (by kernel_rfl)
  have e5 := @run_callFunc_extern Tryz.prog 168 _ (ReflectliteType.method ReflectliteType.elem) Tryz.func168 (by kernel_rfl) (by kernel_rfl) (by kernel_rfl) (by kernel_rfl)
  have e6 := @run_callFunc_extern Tryz.prog 169 _ (ReflectliteType.relation "Implements" ReflectliteType.implements_) Tryz.func169 (by kernel_rfl) (by kernel_rfl) (by kernel_rfl) (by kernel_rfl)
  have e7 := @run_callFunc_extern Tryz.prog 87 _ ReflectliteType.typeOf Tryz.func87 (by kernel_rfl) (by kernel_rfl) (by kernel_rfl) (by kernel_rfl)
  have e8 := @run_callFunc_extern Tryz.prog 166 _ (ReflectliteType.relation "AssignableTo" ReflectliteType.assignableTo) Tryz.func166 (by kernel_rfl) (by kernel_rfl) (by kernel_rfl) (by kernel_rfl)
  have e9 := @run_callFunc_extern Tryz.prog 89 _ (ReflectliteValue.method (ReflectliteValue.valueError "reflectlite.Value.Elem" 0) ReflectliteValue.elem) Tryz.func89 (by kernel_rfl) (by kernel_rfl) (by kernel_rfl) (by kernel_rfl)
  have e10 := @run_callFunc_extern Tryz.prog 90 _ ReflectliteValue.set Tryz.func90 (by kernel_rfl) (by kernel_rfl) (by kernel_rfl) (by kernel_rfl)
  have f1 := valueOfP
  have f2 := typeP
  have f3 := methodKind
  have f4 := methodElem
  have f5 := methodImplements
  have f6 := methodAssignableTo
  have f7 := kindP
  have f8 := kindF
  have f9 := elemP
  have f10 := implementsF
  have f11 := typeOfF
  have f12 := assignableF
  have f13 := valueOfF
  have hlt : 0 < w.heap.size := by
    rcases Nat.lt_or_ge 0 w.heap.size with h | h
    · exact h
    · simp [World.cell?, Array.getElem?_eq_none h] at hg
  have hTl : T < w.heap.size := (Array.getElem?_eq_some_iff.1 hT).1
  obtain ⟨t, ht⟩ : ∃ t : Addr, t = ⟨T, 0, none⟩ := ⟨_, rfl⟩
  rw [← ht]
  let w1 := w.alloc (.cells #[.pointer (some t)] 77)
  let w2 := w1.alloc (.cells #[.pointer (some ⟨4, 77, none⟩), .pointer (some ⟨w.heap.size, 0, none⟩), .int .u64 150] 102)
  let w3 := w2.alloc (.cells #[.pointer (some ⟨4, 77, none⟩), .pointer (some ⟨w.heap.size, 0, none⟩), .int .u64 150] 102)
  let w4 := w3.alloc (.cells #[.int .i64 no, .int .i64 line, .int .i64 at_] 74)
  have b1 : Below w.heap.size w w1 := (Below.refl _ _).alloc (Nat.le_refl _) _
  have b2 : Below w.heap.size w w2 := b1.alloc (by simp [w1]) _
  have b3 : Below w.heap.size w w3 := b2.alloc (by simp [w2, w1]; omega) _
  have b4 : Below w.heap.size w w4 := b3.alloc (by simp [w3, w2, w1]; omega) _
  have n8 := isNilP ⟨w.heap.size, 0, none⟩ t w2 (by simp [w2, w1])
  have hg2 : w2.cell? ⟨0, 0, none⟩ = _ := (b2.cell (p := ⟨0, 0, none⟩) hlt).trans hg
  have el := elemVP ⟨w.heap.size, 0, none⟩ t w3 (by
    have : w3.cell? ⟨w.heap.size, 0, none⟩ = w2.cell? ⟨w.heap.size, 0, none⟩ := World.cell?_alloc_lt _ _ ⟨w.heap.size, 0, none⟩ (by simp [w2, w1]; omega)
    rw [this]; simp [w2, w1])
  have hT4 : w4.heap[T]? = some (.cells old 74 (0, 0)) := (b4.block T hTl).trans hT
  have hb4 : w4.heap[w.heap.size + 1 + 1 + 1]? = some (.cells #[.int .i64 no, .int .i64 line, .int .i64 at_] 74 (0, 0)) := by
    have e : w3.heap.size = w.heap.size + 1 + 1 + 1 := by simp [w3, w2, w1]
    rw [← e]
    exact heap_alloc_new w3 (.cells #[.int .i64 no, .int .i64 line, .int .i64 at_] 74)
  have st := setF T (w.heap.size + 1 + 1 + 1) old (.int .i64 no) (.int .i64 line) (.int .i64 at_) w4 rfl rfl rfl hb4 hT4 ho
  rw [← ht] at st
  have hgr : w.grownBy (w4.setRow T #[.int .i64 no, .int .i64 line, .int .i64 at_]) (some T) := by
    refine ⟨b4.os, b4.tape, b4.output, ?_, fun k hk hne => ?_⟩
    · have := b4.size
      simpa [World.setRow] using this
    · have hkT : ¬ T = k := fun e => hne (by rw [e])
      have : (w4.setRow T #[.int .i64 no, .int .i64 line, .int .i64 at_]).heap[k]? = w4.heap[k]? := by
        unfold World.setRow
        rw [Array.getElem?_modify, if_neg hkT]
      rw [this]
      exact b4.block k hk
  have hbk : (w4.setRow T #[.int .i64 no, .int .i64 line, .int .i64 at_]).heap[T]? = some (.cells #[.int .i64 no, .int .i64 line, .int .i64 at_] 74 (0, 0)) := by
    unfold World.setRow
    rw [Array.getElem?_modify, if_pos rfl, hT4]
    rfl
  have Hgr := Lib.hid hgr
  have Hbk := Lib.hid hbk
  clear hgr hbk b1 b2 b3 b4 hT4 hb4 ht hg hT
  simp only [w4, w3, w2, w1] at n8 hg2 el st Hgr Hbk
  clear w4 w3 w2 w1
  go_enter Tryz.func47, Tryz.ntmps47
  go_wp2
  refine wp_loop_rounds 1 ?_
  rw [rounds_succ]
  go_wp2
  go_ret
  exact ⟨rfl, Hbk.out, Hgr.out⟩
end Go.Proofs.YtlomjbfhalmalaaGreatDoor.E
set_option linter.unusedVariables false
set_option linter.unusedSimpArgs false
namespace Go.Proofs.YtlomjbfhalmalaaGreatDoor.E
open Go Go.RowKit
set_option maxHeartbeats 4000000 in
set_option maxRecDepth 1000000 in
theorem num_fault (no line at_ : Int) (w : World) (h1 : 1 ≤ no) (h2 : no ≤ 25) :
    Calls Tryz.prog 46 #[flt no line at_] w fun e w' => e = .returned (.int .i64 no) ∧ Below w.heap.size w w' := by
  have cI := is_fault no line at_
  have hn0 : (no == 0) = false := beq_eq_false_iff_ne.2 (by omega)
  go_enter Tryz.func46, Tryz.ntmps46
  go_wp2
  go_loopw [3, 4] (fun f v wr => ∃ n : Nat, 1 ≤ n ∧ n ≤ 26 ∧ v = .int .i64 n ∧ f = .int .i64 (if no < n then no else 0) ∧ Below w.heap.size w wr) (fun _ v _ => 26 - (intOf v).toNat)
  case atStart => exact ⟨1, by omega, by omega, rfl, by rw [if_neg (by omega)], Below.refl _ _⟩
  case round =>
    obtain ⟨n, hn1, hn2, rfl, rfl, hbw⟩ := hrel
    by_cases hlt : n ≤ 25
    · have hltI : (n : Int) ≤ 25 := by omega
      have hbs := hbw.size
      by_cases he : no = n
      · have e1 : (if no < (n : Int) then no else 0) = 0 := if_neg (by omega)
        have e2 : (if no < ((n : Int) + 1) then no else 0) = (n : Int) := by rw [if_pos (by omega)]; exact he
        have E2 := Lib.hid e2
        have cI2 : ∀ W, Calls Tryz.prog 65 #[flt no line at_, erno n] W fun e w' => e = .returned (.bool true) ∧ Below W.heap.size W w' := fun W => by
          have := cI n W
          rw [show (no == (n : Int)) = true from beq_iff_eq.2 he] at this
          exact this
        rw [e1]
        clear e1 e2 he cI hn0
        go_wp2_with (go_at_call 65; refine (cI2 _).mono ?_; rintro e w' ⟨rfl, hb⟩)
        go_roundw
        case rel => exact ⟨n + 1, by omega, by omega, by go_num, by rw [show ((n + 1 : Nat) : Int) = (n : Int) + 1 by omega, E2.out], hbw.trans (hb.mono hbs)⟩
        case measure => simp [intOf]; omega
      · have cI2 : ∀ W, Calls Tryz.prog 65 #[flt no line at_, erno n] W fun e w' => e = .returned (.bool false) ∧ Below W.heap.size W w' := fun W => by
          have := cI n W
          rw [show (no == (n : Int)) = false from beq_eq_false_iff_ne.2 he] at this
          exact this
        have e2 : (if no < ((n : Int) + 1) then no else 0) = (if no < (n : Int) then no else 0) := by
          by_cases h : no < n
          · rw [if_pos h, if_pos (by omega)]
          · rw [if_neg h, if_neg (by omega)]
        have E2 := Lib.hid e2
        clear e2 he cI hn0
        go_wp2_with (go_at_call 65; refine (cI2 _).mono ?_; rintro e w' ⟨rfl, hb⟩)
        go_roundw
        case rel => exact ⟨n + 1, by omega, by omega, by go_num, by rw [show ((n + 1 : Nat) : Int) = (n : Int) + 1 by omega, E2.out], hbw.trans (hb.mono hbs)⟩
        case measure => simp [intOf]; omega
    · obtain rfl : n = 26 := by omega
      have e1 : (if no < ((26 : Nat) : Int) then no else 0) = no := if_pos (by omega)
      have cI2 : ∀ W, Calls Tryz.prog 65 #[flt no line at_, erno 0] W fun e w' => e = .returned (.bool false) ∧ Below W.heap.size W w' := fun W => by
        have := cI 0 W
        rw [hn0] at this
        exact this
      have hbs := hbw.size
      rw [e1]
      clear e1 cI
      go_wp2_with (go_at_call 65; refine (cI2 _).mono ?_; rintro e w' ⟨rfl, hb⟩)
      go_ret
      exact ⟨rfl, hbw.trans (hb.mono hbs)⟩
set_option maxHeartbeats 4000000 in
set_option maxRecDepth 1000000 in
theorem place_fault (no line at_ : Int) (w : World) (h1 : 1 ≤ no) (h2 : no ≤ 25) (hg : w.cell? ⟨0, 0, none⟩ = some (.iface 123 (.agg #[.pointer (some ⟨4, 30, none⟩)]))) :
    Calls Tryz.prog 70 #[flt no line at_] w fun e w' => e = .returned (.tuple #[.int .i64 line, .int .i64 at_, .bool true]) ∧ Below w.heap.size w w' := by
  have hlt : 0 < w.heap.size := by
    rcases Nat.lt_or_ge 0 w.heap.size with h | h
    · exact h
    · simp [World.cell?, Array.getElem?_eq_none h] at hg
  have cA := as_fault w.heap.size #[.int .i64 0, .int .i64 0, .int .i64 0] no line at_ (w.alloc (.cells #[.int .i64 0, .int .i64 0, .int .i64 0] 74)) ((World.cell?_alloc_lt _ _ ⟨0, 0, none⟩ hlt).trans hg) (heap_alloc_new _ _) rfl
  have cN := num_fault no line at_
  have e0 : (no == no) = true := by simp
  clear hg
  go_enter Tryz.func70, Tryz.ntmps70
  go_wp2_with (go_at_call 47; refine cA.mono ?_; rintro e w2 ⟨rfl, hblk, hgr⟩)
  have hbs : w.heap.size < w2.heap.size := (Array.getElem?_eq_some_iff.1 hblk).1
  have hb2 : Below w.heap.size w w2 := ((Below.refl _ w).alloc (Nat.le_refl _) _).grown hgr (by simp) (fun k hk => by cases hk; exact Nat.le_refl _)
  have k0 : w2.cell? ⟨w.heap.size, 0, none⟩ = some (.int .i64 no) := cell_of_row _ _ _ _ _ _ hblk
  have k1 : w2.cell? ⟨w.heap.size, 1, none⟩ = some (.int .i64 line) := cell_of_row _ _ _ _ _ _ hblk
  have k2 : w2.cell? ⟨w.heap.size, 2, none⟩ = some (.int .i64 at_) := cell_of_row _ _ _ _ _ _ hblk
  clear hblk hgr cA
  have cNS : ∀ W : World, (w2.heap.size ≤ W.heap.size ∧ Below w.heap.size w W ∧ W.cell? ⟨w.heap.size, 0, none⟩ = some (.int .i64 no) ∧ W.cell? ⟨w.heap.size, 1, none⟩ = some (.int .i64 line) ∧ W.cell? ⟨w.heap.size, 2, none⟩ = some (.int .i64 at_)) →
      Calls Tryz.prog 46 #[flt no line at_] W fun e w3 => e = .returned (.int .i64 no) ∧ (w2.heap.size ≤ w3.heap.size ∧ Below w.heap.size w w3 ∧ w3.cell? ⟨w.heap.size, 0, none⟩ = some (.int .i64 no) ∧ w3.cell? ⟨w.heap.size, 1, none⟩ = some (.int .i64 line) ∧ w3.cell? ⟨w.heap.size, 2, none⟩ = some (.int .i64 at_)) := fun W ⟨s1, s2, s3, s4, s5⟩ =>
    (cN W h1 h2).mono fun e w3 ⟨he, hb3⟩ => ⟨he, Nat.le_trans s1 hb3.size, s2.trans (hb3.mono (by omega)), (hb3.cell (p := ⟨w.heap.size, 0, none⟩) (by show w.heap.size < W.heap.size; omega)).trans s3, (hb3.cell (p := ⟨w.heap.size, 1, none⟩) (by show w.heap.size < W.heap.size; omega)).trans s4, (hb3.cell (p := ⟨w.heap.size, 2, none⟩) (by show w.heap.size < W.heap.size; omega)).trans s5⟩
  have hb2d : Below w.heap.size w w2.drew := hb2.drew
  clear cN
  go_wp2
  go_region_held3 (fun W => w2.heap.size ≤ W.heap.size ∧ Below w.heap.size w W ∧ W.cell? ⟨w.heap.size, 0, none⟩ = some (.int .i64 no) ∧ W.cell? ⟨w.heap.size, 1, none⟩ = some (.int .i64 line) ∧ W.cell? ⟨w.heap.size, 2, none⟩ = some (.int .i64 at_)) (first | exact ⟨by assumption, by assumption, by assumption, by assumption, by assumption⟩ | exact ⟨Nat.le_refl _, by assumption, by assumption, by assumption, by assumption⟩)
    (first | (go_at_call 46; refine (cNS _ ?_).mono ?_; (first | exact ⟨by assumption, by assumption, by assumption, by assumption, by assumption⟩ | exact ⟨Nat.le_refl _, by assumption, by assumption, by assumption, by assumption⟩); rintro e w3 ⟨rfl, s1, s2, s3, s4, s5⟩))
  all_goals go_wp2
  all_goals go_ret3
  all_goals exact ⟨rfl, s2⟩
set_option maxHeartbeats 4000000 in
set_option maxRecDepth 1000000 in
theorem at_fault (no line at_ : Int) (w : World) (h1 : 1 ≤ no) (h2 : no ≤ 25) (hg : w.cell? ⟨0, 0, none⟩ = some (.iface 123 (.agg #[.pointer (some ⟨4, 30, none⟩)]))) :
    Calls Tryz.prog 49 #[flt no line at_, .int .i64 no, .int .i64 line, .int .i64 at_] w fun e w' => e = .returned (.bool true) ∧ Below w.heap.size w w' := by
  have cP := place_fault no line at_ w h1 h2 hg
  have cN := num_fault no line at_
  have n0 : (no == 0) = false := beq_eq_false_iff_ne.2 (by omega)
  have e0 : (no == no) = true := by simp
  have e1 : (line == line) = true := by simp
  have e2 : (at_ == at_) = true := by simp
  clear hg
  go_enter Tryz.func49, Tryz.ntmps49
  go_wp2_with (first | (go_at_call 70; refine cP.mono ?_; rintro e w2 ⟨rfl, hb⟩) | (go_at_call 46; refine (cN _ h1 h2).mono ?_; rintro e w3 ⟨rfl, hb3⟩))
  go_ret
  exact ⟨rfl, hb.trans (hb3.mono hb.size)⟩
end Go.Proofs.YtlomjbfhalmalaaGreatDoor.E
set_option linter.unusedVariables false
set_option linter.unusedSimpArgs false
namespace Go.Proofs.YtlomjbfhalmalaaGreatDoor.C
open Go Go.RowKit Go.Proofs.YtlomjbfhalmalaaGreatDoor.M Go.Proofs.YtlomjbfhalmalaaGreatDoor.E
def HE (w : World) : Prop := w.cell? ⟨0, 0, none⟩ = some (.iface 123 (.agg #[.pointer (some ⟨4, 30, none⟩)]))
theorem HE.lt {w : World} (h : HE w) : 0 < w.heap.size := by
  rcases Nat.lt_or_ge 0 w.heap.size with h' | h'
  · exact h'
  · unfold HE at h
    simp [World.cell?, Array.getElem?_eq_none h'] at h
theorem HE.below {w w' : World} {B : Nat} (h : HE w) (hb : Below B w w') (hB : w.heap.size ≤ B) : HE w' :=
  (hb.cell (p := ⟨0, 0, none⟩) (by have := h.lt; show 0 < B; omega)).trans h
theorem Row.below {w w' : World} {base : Nat} {e : TypeId} {k : IntKind} {v : Value} {xs : List Int} (h : Row w base e k v xs) (hb : Below w.heap.size w w') : Row w' base e k v xs := by
  refine ⟨h.1, ?_⟩
  rcases h.2 with h | ⟨g, cap, cur, h1, h2, h3, h4⟩
  · exact .inl h
  · exact .inr ⟨g, cap, cur, h1, h2, (hb.block g (Array.getElem?_eq_some_iff.1 h3).1).trans h3, h4⟩
end Go.Proofs.YtlomjbfhalmalaaGreatDoor.C
set_option linter.unusedVariables false
set_option linter.unusedSimpArgs false
namespace Go.Proofs.YtlomjbfhalmalaaGreatDoor.C
open Go Go.RowKit Go.Proofs.YtlomjbfhalmalaaGreatDoor.M Go.Proofs.YtlomjbfhalmalaaGreatDoor.PAll Go.Proofs.YtlomjbfhalmalaaGreatDoorW.PrintWords
section
variable (s : ByteArray) (p : Nat) (hs : s.size ≤ 140737488351232)
include hs in
end
section
variable (s : ByteArray) (p : Nat) (hs : s.size ≤ 140737488351232) (hp : p < s.size)
include hs hp in
def chr (x : Nat) : Prop := x < 55296 ∨ 57344 ≤ x ∧ x ≤ 1114111
instance (x : Nat) : Decidable (chr x) := inferInstanceAs (Decidable (_ ∨ _))
include hs hp in
include hs hp in
end
end Go.Proofs.YtlomjbfhalmalaaGreatDoor.C
set_option linter.unusedVariables false
set_option linter.unusedSimpArgs false
namespace Go.Proofs.YtlomjbfhalmalaaGreatDoor.C
open Go Go.RowKit Go.Proofs.YtlomjbfhalmalaaGreatDoor.M Go.Proofs.YtlomjbfhalmalaaGreatDoor.E Go.Proofs.YtlomjbfhalmalaaGreatDoor.PAll Go.Proofs.YtlomjbfhalmalaaGreatDoorW.PrintWords
end Go.Proofs.YtlomjbfhalmalaaGreatDoor.C
set_option linter.unusedVariables false
set_option linter.unusedSimpArgs false
namespace Go.Proofs.YtlomjbfhalmalaaGreatDoor.C
open Go Go.RowKit Go.Proofs.YtlomjbfhalmalaaGreatDoor.M Go.Proofs.YtlomjbfhalmalaaGreatDoor.E Go.Proofs.YtlomjbfhalmalaaGreatDoor.PAll Go.Proofs.YtlomjbfhalmalaaGreatDoorW.PrintWords
theorem R_row {w : World} {e base : Nat} {ok : Nat → Prop} {k : IntKind} {v : Value} {xs : List Int} (h : (Kd.int k).R e w base ok v xs) : Row w base e k v xs := by
  obtain ⟨_, inner, ho, hr⟩ := h
  have e1 : inner = xs.map (Value.int k) := by
    have hl : inner.length = xs.length := by have := hr.1; simpa [Kd.int, Kd.scalar] using this
    refine List.ext_getElem? fun j => ?_
    rcases Nat.lt_or_ge j xs.length with hj | hj
    · have := hr.2 j xs[j] (List.getElem?_eq_getElem hj)
      have h2 : (inner.drop (j * 1)).take 1 = [.int k xs[j]] := this
      rw [Nat.mul_one] at h2
      have h3 := congrArg (·[0]?) h2
      simp only [List.getElem?_take, List.getElem?_drop] at h3
      simpa [List.getElem?_eq_getElem hj] using h3
    · rw [List.getElem?_eq_none (by omega), List.getElem?_eq_none (by simp; omega)]
  rw [e1] at ho
  exact ho
theorem pts_len (l : List UInt8) : (pts l).length ≤ l.length := by
  unfold pts
  rw [List.length_map]
  exact sfx_len l
end Go.Proofs.YtlomjbfhalmalaaGreatDoor.C
set_option linter.unusedVariables false
set_option linter.unusedSimpArgs false
namespace Go.Proofs.YtlomjbfhalmalaaGreatDoor.C
open Go Go.RowKit Go.Proofs.YtlomjbfhalmalaaGreatDoor.M Go.Proofs.YtlomjbfhalmalaaGreatDoor.E Go.Proofs.YtlomjbfhalmalaaGreatDoor.PAll Go.Proofs.YtlomjbfhalmalaaGreatDoorW.PrintWords
theorem wi (n : Nat) (h : (n : Int) + 1 ≤ 9223372036854775807) : wrap64 ((n : Int) + 1) = ((n + 1 : Nat) : Int) := by rw [w64 (by omega) (by omega)]; omega
end Go.Proofs.YtlomjbfhalmalaaGreatDoor.C
set_option linter.unusedVariables false
set_option linter.unusedSimpArgs false
namespace Go.Proofs.YtlomjbfhalmalaaGreatDoor.C
open Go Go.RowKit Go.Proofs.YtlomjbfhalmalaaGreatDoor.M Go.Proofs.YtlomjbfhalmalaaGreatDoor.E Go.Proofs.YtlomjbfhalmalaaGreatDoor.PAll Go.Proofs.YtlomjbfhalmalaaGreatDoorW.PrintWords
end Go.Proofs.YtlomjbfhalmalaaGreatDoor.C
set_option linter.unusedVariables false
set_option linter.unusedSimpArgs false
namespace Go.Proofs.YtlomjbfhalmalaaGreatDoor.C
open Go Go.RowKit Go.Proofs.YtlomjbfhalmalaaGreatDoor.M Go.Proofs.YtlomjbfhalmalaaGreatDoor.E Go.Proofs.YtlomjbfhalmalaaGreatDoor.PAll Go.Proofs.YtlomjbfhalmalaaGreatDoorW.PrintWords
end Go.Proofs.YtlomjbfhalmalaaGreatDoor.C
set_option linter.unusedVariables false
set_option linter.unusedSimpArgs false
namespace Go.Proofs.YtlomjbfhalmalaaGreatDoor.C
open Go Go.RowKit Go.Proofs.YtlomjbfhalmalaaGreatDoor.M
end Go.Proofs.YtlomjbfhalmalaaGreatDoor.C
set_option linter.unusedVariables false
set_option linter.unusedSimpArgs false
namespace Go.Proofs.YtlomjbfhalmalaaGreatDoor.C
open Go Go.RowKit Go.Proofs.YtlomjbfhalmalaaGreatDoor.M
end Go.Proofs.YtlomjbfhalmalaaGreatDoor.C
set_option linter.unusedVariables false
set_option linter.unusedSimpArgs false
namespace Go.Proofs.YtlomjbfhalmalaaGreatDoor.C
open Go Go.RowKit Go.Proofs.YtlomjbfhalmalaaGreatDoor.M
end Go.Proofs.YtlomjbfhalmalaaGreatDoor.C
set_option linter.unusedVariables false
set_option linter.unusedSimpArgs false
namespace Go.Proofs.YtlomjbfhalmalaaGreatDoor.E
open Go Go.RowKit Go.Extern.Stop Go.Stop Go.Extern
end Go.Proofs.YtlomjbfhalmalaaGreatDoor.E
set_option linter.unusedVariables false
set_option linter.unusedSimpArgs false
namespace Go.Proofs.YtlomjbfhalmalaaGreatDoor.E
open Go Go.RowKit Go.Extern.Stop Go.Stop Go.Extern
end Go.Proofs.YtlomjbfhalmalaaGreatDoor.E
set_option linter.unusedVariables false
set_option linter.unusedSimpArgs false
namespace Go.Proofs.YtlomjbfhalmalaaGreatDoor.E
open Go Go.RowKit
end Go.Proofs.YtlomjbfhalmalaaGreatDoor.E
set_option linter.unusedVariables false
set_option linter.unusedSimpArgs false
namespace Go.Proofs.YtlomjbfhalmalaaGreatDoor.C
open Go Go.RowKit Go.Proofs.YtlomjbfhalmalaaGreatDoor.M Go.Proofs.YtlomjbfhalmalaaGreatDoor.E
end Go.Proofs.YtlomjbfhalmalaaGreatDoor.C
set_option linter.unusedVariables false
set_option linter.unusedSimpArgs false
namespace Go.Proofs.YtlomjbfhalmalaaGreatDoor.C
open Go Go.RowKit Go.Proofs.YtlomjbfhalmalaaGreatDoor.M Go.Proofs.YtlomjbfhalmalaaGreatDoor.PAll Go.Proofs.YtlomjbfhalmalaaGreatDoorW.PrintWords
section
variable (s : ByteArray) (p : Nat) (hs : s.size ≤ 140737488351232)
include hs in
end
section
variable (s : ByteArray) (p : Nat) (hs : s.size ≤ 140737488351232) (hp : p < s.size)
include hs hp in
instance (x : Nat) : Decidable (chr x) := inferInstanceAs (Decidable (_ ∨ _))
include hs hp in
include hs hp in
end
end Go.Proofs.YtlomjbfhalmalaaGreatDoor.C
set_option linter.unusedVariables false
set_option linter.unusedSimpArgs false
namespace Go.Proofs.YtlomjbfhalmalaaGreatDoor.C
open Go Go.RowKit Go.Proofs.YtlomjbfhalmalaaGreatDoor.M Go.Proofs.YtlomjbfhalmalaaGreatDoor.E Go.Proofs.YtlomjbfhalmalaaGreatDoor.PAll Go.Proofs.YtlomjbfhalmalaaGreatDoorW.PrintWords
end Go.Proofs.YtlomjbfhalmalaaGreatDoor.C
set_option linter.unusedVariables false
set_option linter.unusedSimpArgs false
namespace Go.Proofs.YtlomjbfhalmalaaGreatDoor.C
open Go Go.RowKit Go.Proofs.YtlomjbfhalmalaaGreatDoor.M Go.Proofs.YtlomjbfhalmalaaGreatDoor.E Go.Proofs.YtlomjbfhalmalaaGreatDoor.PAll Go.Proofs.YtlomjbfhalmalaaGreatDoorW.PrintWords
end Go.Proofs.YtlomjbfhalmalaaGreatDoor.C
set_option linter.unusedVariables false
set_option linter.unusedSimpArgs false
namespace Go.Proofs.YtlomjbfhalmalaaGreatDoor.C
open Go Go.RowKit Go.Proofs.YtlomjbfhalmalaaGreatDoor.M Go.Proofs.YtlomjbfhalmalaaGreatDoor.E Go.Proofs.YtlomjbfhalmalaaGreatDoor.PAll Go.Proofs.YtlomjbfhalmalaaGreatDoorW.PrintWords
end Go.Proofs.YtlomjbfhalmalaaGreatDoor.C
set_option linter.unusedVariables false
set_option linter.unusedSimpArgs false
namespace Go.Proofs.YtlomjbfhalmalaaGreatDoor.C
open Go Go.RowKit Go.Proofs.YtlomjbfhalmalaaGreatDoor.M Go.Proofs.YtlomjbfhalmalaaGreatDoor.E Go.Proofs.YtlomjbfhalmalaaGreatDoor.PAll Go.Proofs.YtlomjbfhalmalaaGreatDoorW.PrintWords
end Go.Proofs.YtlomjbfhalmalaaGreatDoor.C
set_option linter.unusedVariables false
set_option linter.unusedSimpArgs false
namespace Go.Proofs.YtlomjbfhalmalaaGreatDoor.C
open Go Go.RowKit Go.Proofs.YtlomjbfhalmalaaGreatDoor.M Go.Proofs.YtlomjbfhalmalaaGreatDoor.E Go.Proofs.YtlomjbfhalmalaaGreatDoor.PAll Go.Proofs.YtlomjbfhalmalaaGreatDoorW.PrintWords
end Go.Proofs.YtlomjbfhalmalaaGreatDoor.C
set_option linter.unusedVariables false
namespace Go.Proofs.YtlomjbfhalmalaaGreatDoor.Z
open Go Go.RowKit
structure Keeps (Z : Nat → Prop) (W W' : World) : Prop where
  os : W'.os = W.os
  tape : W'.tape = W.tape
  output : W'.output = W.output
  size : W.heap.size ≤ W'.heap.size
  block : ∀ k, k < W.heap.size → ¬ Z k → W'.heap[k]? = W.heap[k]?
theorem lt_of_obj {W : World} {k : Nat} {o : Obj} (h : W.heap[k]? = some o) : k < W.heap.size := (Array.getElem?_eq_some_iff.1 h).1
namespace Keeps
theorem refl (Z : Nat → Prop) (W : World) : Keeps Z W W := ⟨rfl, rfl, rfl, Nat.le_refl _, fun _ _ _ => rfl⟩
theorem mono {Z Z' : Nat → Prop} {W W' : World} (h : Keeps Z W W') (hz : ∀ k, k < W.heap.size → Z k → Z' k) : Keeps Z' W W' :=
  ⟨h.os, h.tape, h.output, h.size, fun k hk hn => h.block k hk (fun z => hn (hz k hk z))⟩
theorem trans {Z Z' : Nat → Prop} {A B C : World} (h : Keeps Z A B) (k : Keeps Z' B C) (hz : ∀ i, i < A.heap.size → Z' i → Z i) : Keeps Z A C :=
  ⟨k.os.trans h.os, k.tape.trans h.tape, k.output.trans h.output, Nat.le_trans h.size k.size,
    fun i hi hn => (k.block i (Nat.lt_of_lt_of_le hi h.size) (fun z => hn (hz i hi z))).trans (h.block i hi hn)⟩
theorem of_below {B : Nat} {Z : Nat → Prop} {W W' : World} (h : Below B W W') (hz : ∀ k, k < W.heap.size → B ≤ k → Z k) : Keeps Z W W' :=
  ⟨h.os, h.tape, h.output, h.size, fun k hk hn => h.block k (Nat.lt_of_not_le fun hb => hn (hz k hk hb))⟩
theorem below {B : Nat} {Z : Nat → Prop} {W W' : World} (h : Keeps Z W W') (hB : B ≤ W.heap.size) (hz : ∀ k, Z k → B ≤ k) : Below B W W' :=
  ⟨h.os, h.tape, h.output, h.size, fun k hk => h.block k (Nat.lt_of_lt_of_le hk hB) (fun z => by have := hz k z; omega)⟩
theorem of_grownBy {row : Option Nat} {Z : Nat → Prop} {W W' : World} (h : W.grownBy W' row) (hz : ∀ r, row = some r → Z r) : Keeps Z W W' :=
  ⟨h.os, h.tape, h.output, h.size, fun k hk hn => h.block k hk (fun e => hn (hz k e.symm))⟩
theorem alloc (Z : Nat → Prop) (W : World) (o : Obj) : Keeps Z W (W.alloc o) := of_grownBy (World.grownBy_alloc W o none) (fun _ e => by cases e)
theorem drew (Z : Nat → Prop) (W : World) : Keeps Z W W.drew := ⟨rfl, rfl, rfl, Nat.le_refl _, fun _ _ _ => rfl⟩
theorem setCell {Z : Nat → Prop} (W : World) (a : Addr) (v : Value) (h : Z a.block) : Keeps Z W (W.setCell a v) :=
  ⟨rfl, rfl, rfl, by show W.heap.size ≤ (W.heap.modify _ _).size; rw [Array.size_modify]; exact Nat.le_refl _, fun k _ hn => Below.heap_setCell W a v k (fun e => hn (by rw [e]; exact h))⟩
theorem obj {Z : Nat → Prop} {W W' : World} (h : Keeps Z W W') {k : Nat} {o : Obj} (ho : W.heap[k]? = some o) (hn : ¬ Z k) : W'.heap[k]? = some o := (h.block k (lt_of_obj ho) hn).trans ho
theorem cell {Z : Nat → Prop} {W W' : World} (h : Keeps Z W W') {a : Addr} {v : Value} (hc : W.cell? a = some v) (hn : ¬ Z a.block) : W'.cell? a = some v :=
  (World.cell?_of_block (h.block a.block (World.block_lt_of_cell? W a hc) hn)).trans hc
end Keeps
structure Step (X Z Z' : Nat → Prop) (W W' : World) : Prop where
  keeps : Keeps (fun k => Z k ∨ X k) W W'
  new : ∀ k, Z' k → Z k ∨ W.heap.size ≤ k
  lt : ∀ k, Z' k → k < W'.heap.size
def none' : Nat → Prop := fun _ => False
theorem Step.trans {X Z Z1 Z2 : Nat → Prop} {A B C : World} (h : Step X Z Z1 A B) (k : Step X Z1 Z2 B C) : Step X Z Z2 A C :=
  ⟨h.keeps.trans k.keeps (fun i hi z => z.elim (fun z1 => (h.new i z1).elim .inl (fun h' => by omega)) .inr),
    fun i z => (k.new i z).elim (fun z1 => h.new i z1) (fun h' => .inr (Nat.le_trans h.keeps.size h')), k.lt⟩
theorem Step.same {X Z : Nat → Prop} {W W' : World} (h : Keeps (fun k => Z k ∨ X k) W W') (hz : ∀ k, Z k → k < W.heap.size) : Step X Z Z W W' :=
  ⟨h, fun _ z => .inl z, fun k z => Nat.lt_of_lt_of_le (hz k z) h.size⟩
variable {P : Program}
end Go.Proofs.YtlomjbfhalmalaaGreatDoor.Z
set_option linter.unusedVariables false
set_option linter.unusedSimpArgs false
namespace Go.Proofs.YtlomjbfhalmalaaGreatDoor.C
open Go Go.RowKit Go.Shelf Go.Proofs.YtlomjbfhalmalaaGreatDoor.M Go.Proofs.YtlomjbfhalmalaaGreatDoor.Z
attribute [local go_sem] Oper.semAt_some
theorem Step.none {X Z : Nat → Prop} {W : World} (hz : ∀ k, Z k → k < W.heap.size) : Step X Z Z W W := Step.same (Keeps.refl _ _) hz
end Go.Proofs.YtlomjbfhalmalaaGreatDoor.C
set_option linter.unusedVariables false
set_option linter.unusedSimpArgs false
namespace Go.Proofs.YtlomjbfhalmalaaGreatDoor.C
open Go Go.RowKit Go.Proofs.YtlomjbfhalmalaaGreatDoor.M Go.Proofs.YtlomjbfhalmalaaGreatDoor.E
end Go.Proofs.YtlomjbfhalmalaaGreatDoor.C
set_option linter.unusedVariables false
set_option linter.unusedSimpArgs false
namespace Go.Proofs.YtlomjbfhalmalaaGreatDoor.C
open Go Go.RowKit Go.Shelf Go.Proofs.YtlomjbfhalmalaaGreatDoor.M Go.Proofs.YtlomjbfhalmalaaGreatDoor.Z
attribute [local go_sem] Oper.semAt_some
theorem Keeps.of_below0 {W W' : World} (h : Below W.heap.size W W') : Keeps none' W W' := Keeps.of_below h (fun k h1 h2 => by omega)
theorem frozen_keeps {Z : Nat → Prop} {W W' : World} (h : Keeps Z W W') {a : Addr} (hl : a.block < W.heap.size) (hn : ¬ Z a.block) : W'.frozen? a = W.frozen? a := World.frozen?_of_block (h.block a.block hl hn)
end Go.Proofs.YtlomjbfhalmalaaGreatDoor.C
set_option linter.unusedVariables false
set_option linter.unusedSimpArgs false
namespace Go.Proofs.YtlomjbfhalmalaaGreatDoor.C
open Go Go.RowKit Go.Shelf Go.Proofs.YtlomjbfhalmalaaGreatDoor.M Go.Proofs.YtlomjbfhalmalaaGreatDoor.Z
section
variable {P : Program} (w : World)
theorem run_append_str_lies (base : Nat) (t u ty e : TypeId) (i : TypeInfo) (ht : P.underlying t = some (.slice e)) (hu : P.underlying u = some .string) (hi : P.info? e = some i) (hz : i.zero = some (.int .u8 0))
    (hsize : i.size = 1) (hby : i.bytes = 1) (v : Value) (n : Nat) (xs : List Value) (hown : w.ownsRow base e 1 v n xs) (s : ByteArray)
    (h63 : n + s.size ≤ maxLen) (hbytes : n + s.size ≤ 140737488355328) (hbase : base ≤ w.heap.size) :
    ∃ v' w', (Builtin.append_ #[t, u] ty #[v, .string s]).run P w = .ok v' w' ∧ w'.ownsRow base e 1 v' (n + s.size) (xs ++ Lib.strCells s) ∧ w.grownBy w' v.ownBlock ∧
      (∀ g, v'.ownBlock = some g → v.ownBlock = some g ∨ g = w.heap.size) := by
  obtain ⟨v', w', hr, h2, h3, h4⟩ := Lib.run_append_own_string (P := P) w base t u ty e i ht hu hi hz hsize hby v n xs hown s h63 hbytes hbase
  refine ⟨v', w', hr, h2, h3, fun g hg => ?_⟩
  have hsmall : n + s.size ≤ 9223372036854775807 := by simp only [maxLen] at h63; omega
  have hxl : xs.length = n := by simpa using hown.1
  rcases hown.2 with ⟨rfl, rfl⟩ | ⟨b, cp, cur, rfl, hbg, hgg, hnc, hcm, hcs, htake⟩
  · by_cases hm : s.size = 0
    · rw [h4.2 ⟨rfl, hm⟩] at hg
      simp [Value.ownBlock] at hg
    · have hr' := run_append_nil_string (P := P) w t u ty e i (.int .u8 0) ht hu hi hz s (by omega) (by omega) (by rw [hby]; omega)
      rw [hr'] at hr
      injection hr with hv _
      subst hv
      right
      simpa [Value.ownBlock] using hg.symm
  · by_cases hroom : n + s.size ≤ cp
    · have hcs' : cur.size = cp := by simpa using hcs
      have hr' := Lib.run_append_room_string (P := P) w t u ty e i ht hu hi hsize b n cp cur hgg s hroom (by omega)
      rw [hr'] at hr
      injection hr with hv _
      subst hv
      left
      simpa [Value.ownBlock] using hg
    · have holds : ∀ j u, xs[j]? = some u → w.cell? ((⟨b, 0, none⟩ : Addr).add j) = some u := hown.cells (g := b) rfl
      have hr' := Lib.run_append_grow_string (P := P) w t u ty e i (.int .u8 0) ht hu hi hz ⟨b, 0, none⟩ n cp xs (by rw [hsize]; simpa using hxl) holds s (by omega) (by omega) (by rw [hby]; exact growslice_fits (by omega) (by omega))
      rw [hr'] at hr
      injection hr with hv _
      subst hv
      right
      simpa [Value.ownBlock] using hg.symm
theorem wpList_append_str_lies {ops : Array Oper} {rest : List Oper} {o : Oper} {a : Act} {Q : Exit → Act → World → Prop} (hgd : o.guard = none) (sl x : Operand) (t u : TypeId)
    (ho : o.op = .call { callee := .builtin .append, args := #[sl, x], argTypes := #[t, u] })
    (base : Nat) (e : TypeId) (i : TypeInfo) (ht : P.underlying t = some (.slice e)) (hu : P.underlying u = some .string) (hi : P.info? e = some i) (hz : i.zero = some (.int .u8 0))
    (hsize : i.size = 1) (hby : i.bytes = 1) (v : Value) (n : Nat) (xs : List Value) (hs : a.eval sl = v) (hown : w.ownsRow base e 1 v n xs) (s : ByteArray) (hx : a.eval x = .string s)
    (h63 : n + s.size ≤ maxLen) (hbytes : n + s.size ≤ 140737488355328) (hbase : base ≤ w.heap.size)
    (h : ∀ v' w', w'.ownsRow base e 1 v' (n + s.size) (xs ++ Lib.strCells s) → w.grownBy w' v.ownBlock → (∀ g, v'.ownBlock = some g → v.ownBlock = some g ∨ g = w.heap.size) → wpList P ops Q rest (a.put o.dst v') w') : wpList P ops Q (o :: rest) a w := by
  refine wpList_plain hgd fun K hK => ?_
  obtain ⟨v', w', hr, h2, h3, h4⟩ := run_append_str_lies (P := P) w base t u o.type e i ht hu hi hz hsize hby v n xs hown s h63 hbytes hbase
  unfold Oper.wp execOp
  simp only [ho, resolve, invoke, builtin, Sem.run_bind, Sem.run_pure, Result.andThen_ok, List.map_toArray, List.map_cons, List.map_nil, hs, hx, hr]
  exact hK _ _ (h v' w' h2 h3 h4)
end
structure Bd (w : World) (B b : Nat) (p v : Value) (bs : List UInt8) : Prop where
  le : B ≤ b
  blk : w.heap[b]? = some (.cells #[p, v] 67 (0, 0))
  p : p = .pointer none ∨ p = .pointer (some ⟨b, 0, none⟩)
  row : w.ownsRow B 5 1 v bs.length (bcells bs)
  ne : v.ownBlock ≠ some b
theorem owns_obj {w w' : World} {B n size : Nat} {e : TypeId} {v : Value} {xs : List Value} {Y : Nat → Prop} (h : w.ownsRow B e size v n xs) (hk : Keeps Y w w') (hv : ∀ g, v.ownBlock = some g → ¬ Y g) : w'.ownsRow B e size v n xs := by
  refine ⟨h.1, ?_⟩
  rcases h.2 with h | ⟨g, cap, cur, rfl, hb, hg, r⟩
  · exact .inl h
  · exact .inr ⟨g, cap, cur, rfl, hb, hk.obj hg (hv g (by simp [Value.ownBlock])), r⟩
def Tryz.lays240_ren : Go.Shelf.Ren := ⟨fun | 240 => 83 | 276 => 102 | n => n, fun | 0 => 0 | 4 => 4 | 9 => 9 | 20 => 20 | 70 => 64 | 72 => 67 | 164 => 99 | 37 => 65 | 5 => 5 | 3 => 3 | n => n, fun | n => n⟩
theorem Tryz.lays240 : Go.Proofs.Lays.n240 Tryz.prog Tryz.lays240_ren := {
  mixed := by kernel_rfl
  f240 := Tryz.func83.trans (congrArg some (by kernel_rfl))
  f276 := Tryz.func102.trans (congrArg some (by kernel_rfl))
  t0 := Tryz.underlying0
  a0 := Tryz.isAgg0
  z0 := Tryz.sizeOf0
  v0 := Tryz.zeroValue0
  t4 := Tryz.underlying4
  a4 := Tryz.isAgg4
  z4 := Tryz.sizeOf4
  v4 := Tryz.zeroValue4
  t9 := Tryz.underlying9
  a9 := Tryz.isAgg9
  z9 := Tryz.sizeOf9
  v9 := Tryz.zeroValue9
  t20 := Tryz.underlying20
  a20 := Tryz.isAgg20
  z20 := Tryz.sizeOf20
  v20 := Tryz.zeroValue20
  t70 := Tryz.underlying64
  a70 := Tryz.isAgg64
  z70 := Tryz.sizeOf64
  v70 := Tryz.zeroValue64
  t72 := Tryz.underlying67
  a72 := Tryz.isAgg67
  z72 := Tryz.sizeOf67
  v72 := Tryz.zeroValue67
  t164 := Tryz.underlying99
  a164 := Tryz.isAgg99
  z164 := Tryz.sizeOf99
  v164 := Tryz.zeroValue99 }
theorem Tryz.Builder_X72_240 : Go.Proofs.Builder.X72 Tryz.prog Tryz.lays240_ren := {
  sizeBuilder := by kernel_rfl
  liesBuilder := by kernel_rfl }
end Go.Proofs.YtlomjbfhalmalaaGreatDoor.C
set_option linter.unusedVariables false
set_option linter.unusedSimpArgs false
namespace Go.Proofs.YtlomjbfhalmalaaGreatDoor.C
open Go Go.RowKit Go.Shelf Go.Proofs.YtlomjbfhalmalaaGreatDoor.M Go.Proofs.YtlomjbfhalmalaaGreatDoor.Z
attribute [local go_sem] Oper.semAt_some
end Go.Proofs.YtlomjbfhalmalaaGreatDoor.C
set_option linter.unusedVariables false
set_option linter.unusedSimpArgs false
namespace Go.Proofs.YtlomjbfhalmalaaGreatDoor.C
open Go Go.RowKit Go.Shelf Go.Proofs.YtlomjbfhalmalaaGreatDoor.M Go.Proofs.YtlomjbfhalmalaaGreatDoor.Z Go.Proofs.YtlomjbfhalmalaaGreatDoor.PAll Go.Proofs.YtlomjbfhalmalaaGreatDoorW.PrintWords
end Go.Proofs.YtlomjbfhalmalaaGreatDoor.C
set_option linter.unusedVariables false
set_option linter.unusedSimpArgs false
namespace Go.Proofs.YtlomjbfhalmalaaGreatDoor.C
open Go Go.RowKit Go.Shelf Go.Proofs.YtlomjbfhalmalaaGreatDoor.M Go.Proofs.YtlomjbfhalmalaaGreatDoor.Z
def ba (l : List UInt8) : ByteArray := ⟨l.toArray⟩
theorem bl_ba (l : List UInt8) : bl (ba l) = l := by simp [ba, bl]
theorem ba_bl (s : ByteArray) : ba (bl s) = s := by cases s; simp [ba, bl]
theorem ba_size (l : List UInt8) : (ba l).size = l.length := by rw [← bl_len, bl_ba]
theorem Bd.new (w : World) : Bd (w.alloc (.cells #[.pointer none, .slice none 0 0] 67)) w.heap.size w.heap.size (.pointer none) (.slice none 0 0) [] :=
  ⟨Nat.le_refl _, heap_alloc_new w _, .inl rfl, ⟨rfl, .inl ⟨rfl, rfl⟩⟩, by simp [Value.ownBlock]⟩
end Go.Proofs.YtlomjbfhalmalaaGreatDoor.C
set_option linter.unusedVariables false
set_option linter.unusedSimpArgs false
namespace Go.Proofs.YtlomjbfhalmalaaGreatDoor.C
open Go Go.RowKit Go.Shelf Go.Proofs.YtlomjbfhalmalaaGreatDoor.M Go.Proofs.YtlomjbfhalmalaaGreatDoor.Z
theorem extract_ba {s : ByteArray} {i j : Nat} (hj : j ≤ s.size) : s.extract i j = ba (((bl s).take j).drop i) := by
  rw [← ba_bl (s.extract i j)]
  congr 1
  have : bl (s.extract i j) = ((bl s).drop i).take (j - i) := by simp [bl, ByteArray.data_extract, Array.toList_extract, List.extract]
  rw [this, List.drop_take]
end Go.Proofs.YtlomjbfhalmalaaGreatDoor.C
set_option linter.unusedVariables false
set_option linter.unusedSimpArgs false
namespace Go.Proofs.YtlomjbfhalmalaaGreatDoor.C
open Go Go.RowKit Go.Shelf Go.Proofs.YtlomjbfhalmalaaGreatDoor.M Go.Proofs.YtlomjbfhalmalaaGreatDoor.Z
theorem bl_ext {s : ByteArray} {i j : Nat} : bl (s.extract i j) = ((bl s).drop i).take (j - i) := by simp [bl, ByteArray.data_extract, Array.toList_extract, List.extract]
set_option maxHeartbeats 1000000 in
theorem trim_any (s : ByteArray) (w : World) : Calls Tryz.prog 85 #[.string s, .string ⟨#[32, 9, 13, 10]⟩] w fun e w' => e = .returned (.string (ba ((bl s).dropWhile blk))) ∧ Below w.heap.size w w' := by
  have := Any.strings_TrimLeft_laid Tryz.lays161 (by kernel_rfl) s ⟨#[32, 9, 13, 10]⟩ w (by decide) (ascii_of_all (by decide))
  refine this.mono ?_
  rintro e w' ⟨rfl, hb⟩
  refine ⟨?_, hb⟩
  have : Lib.trimLeftS s.data.toList [32, 9, 13, 10] = (bl s).dropWhile blk := by
    unfold Lib.trimLeftS
    congr 1
    funext c
    have : ∀ c : UInt8, [32, 9, 13, 10].contains c = blk c := u8_all (by decide +kernel)
    exact this c
  show Ending.returned (Value.string ⟨(Lib.trimLeftS s.data.toList [32, 9, 13, 10]).toArray⟩) = _
  rw [this]; rfl
end Go.Proofs.YtlomjbfhalmalaaGreatDoor.C
