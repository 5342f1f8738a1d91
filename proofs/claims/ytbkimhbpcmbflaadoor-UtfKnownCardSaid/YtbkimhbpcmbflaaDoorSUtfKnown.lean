/-
  GA, MM, UU, V0, V1, QR, Z1, Z2, Z3, Z4: what is wanted of these, joined to one text.
-/
import Derived.Test.YtbkimhbpcmbflaaDoorShelf
import Derived.Test.YtbkimhbpcmbflaaDoorMath1
import Derived.WalkKit
import Derived.WalkSpells
import Derived.WalkLawsBesides
import Derived.BigCall
import Derived.Lib.Hide
import Derived.Lib.IndexBytes
import Derived.Laws.IdiomStrings
import Derived.Lib.OthersKept
import Derived.Lib.AppendStr
import Derived.Laws.BytesArg
import Derived.LaidEql
import Derived.Stop.Asserts
import Derived.RowKitTokens
import Derived.KernelRfl
import Derived.Laws.Tables
import Derived.Laws.Rows
import Derived.Deep.RegionHeld3
import Derived.Test.YtbkimhbpcmbflaaDoorPAllx
import Derived.Laws.Cover4
import Derived.Lib.SpaceU
import Derived.RangeFuncNested
import Derived.RangeFuncBound
import Derived.RangeFuncCalls
import Derived.RangeFuncLeaves
import Derived.Shelf.Abstract
import Derived.Shelf.RegionOpen
import Derived.OwnWalkIn
import Derived.TacticsInMore
import Derived.LoopNIn
import Derived.LoopIn
import Derived.Shelf.Unicode.ValidAny
import Derived.Deep.QuietTactic
import Derived.BigQuiet
import Derived.RangeFuncBox
set_option linter.unusedVariables false
set_option linter.unusedSimpArgs false
namespace Go.Proofs.YtbkimhbpcmbflaaDoor.C
open Go Go.RowKit Go.Proofs.YtbkimhbpcmbflaaDoor.M
abbrev bl (s : ByteArray) : List UInt8 := s.data.toList
theorem bl_len (s : ByteArray) : (bl s).length = s.size := (Lib.size_eq s).symm
theorem bl_extract (s : ByteArray) (p : Nat) : bl (s.extract p s.size) = (bl s).drop p := Lib.extract_to_end s p
theorem bl_nonempty {s : ByteArray} {p : Nat} (h : p < s.size) : (bl s).drop p ≠ [] := ne_nil_of_lt (by rw [bl_len]; exact h)
theorem decodeGo_eq {s : ByteArray} {p : Nat} (h : p < s.size) : Lib.decodeGo (s.extract p s.size) = (dc ((bl s).drop p), dw ((bl s).drop p)) := by
  unfold Lib.decodeGo
  have hz : (s.extract p s.size).size = s.size - p := by simp
  rw [if_neg (by omega)]
  have := Lib.decodeL_drop (s.extract p s.size) 0
  rw [← this]
  show Lib.decodeL (List.drop 0 (bl (s.extract p s.size))) = _
  rw [bl_extract]
  rfl
theorem byte_at {s : ByteArray} {p : Nat} (h : p < s.size) : (s[p]'h).toNat = b0 ((bl s).drop p) := by
  unfold b0 bl
  simp only [List.getD_eq_getElem?_getD, List.getElem?_drop, Nat.add_zero]
  have hp : p < s.data.toList.length := by have := Lib.size_eq s; omega
  rw [List.getElem?_eq_getElem hp]
  rfl
/-- unicode/utf8.DecodeRuneInString behind a cut. -/
theorem decode_rest (s : ByteArray) (p : Nat) (w : World) (hT : Lib.Utf8Tabs 0 1 w) (h : p < s.size) :
    Calls Tryd.prog 96 #[.string (s.extract p s.size)] w fun e w' => e = .returned (.tuple #[.int .i32 (dc ((bl s).drop p) : Nat), .int .i64 (dw ((bl s).drop p) : Nat)]) ∧ Below w.heap.size w w' := by
  have := Tryd.utf8_DecodeRuneInString (s.extract p s.size) w hT
  rw [decodeGo_eq h] at this
  exact this
def decU (l : List UInt8) (a : Int) : Int × Int := if a < 0 ∨ (l.length : Int) ≤ a then (65533, 0) else ((dc (l.drop a.toNat) : Nat), (dw (l.drop a.toNat) : Nat))
set_option maxHeartbeats 1000000 in
theorem decode_any (s : ByteArray) (a : Int) (w : World) (hT : Lib.Utf8Tabs 0 1 w) (hs : s.size ≤ 140737488351232) :
    Calls Tryd.prog 71 #[.string s, .int .i64 a] w fun e w' => e = .returned (.tuple #[.int .i32 (decU (bl s) a).1, .int .i64 (decU (bl s) a).2]) ∧ Below w.heap.size w w' := by
  unfold decU
  rw [bl_len]
  by_cases h : a < 0 ∨ (s.size : Int) ≤ a
  · rw [if_pos h]
    by_cases h1 : a < 0
    · go_enter Tryd.func71, Tryd.ntmps71
      go_wp2
      go_ret2
      exact ⟨rfl, Below.refl _ _⟩
    · have h2 : (s.size : Int) ≤ a := by omega
      go_enter Tryd.func71, Tryd.ntmps71
      go_wp2
      go_ret2
      exact ⟨rfl, Below.refl _ _⟩
  · rw [if_neg h]
    obtain ⟨p, rfl⟩ : ∃ p : Nat, a = p := ⟨a.toNat, by omega⟩
    have hp : p < s.size := by omega
    have cD := decode_rest s p
    rw [Int.toNat_natCast]
    generalize dc ((bl s).drop p) = c at *
    generalize dw ((bl s).drop p) = k at *
    clear h
    have h1 : (p : Int) < s.size := by omega
    go_enter Tryd.func71, Tryd.ntmps71
    go_wp2_with (go_at_call 96; refine (cD _ hT hp).mono ?_; rintro e w' ⟨rfl, hb⟩)
    go_ret2
    exact ⟨rfl, hb⟩
end Go.Proofs.YtbkimhbpcmbflaaDoor.C
set_option linter.unusedVariables false
set_option linter.unusedSimpArgs false
namespace Go.Proofs.YtbkimhbpcmbflaaDoor.C
open Go Go.RowKit Go.Proofs.YtbkimhbpcmbflaaDoor.M
/-- a row of whole numbers, of the call's own -/
def Row (w : World) (base : Nat) (e : TypeId) (k : IntKind) (v : Value) (xs : List Int) : Prop := w.ownsRow base e 1 v xs.length (xs.map (Value.int k))
theorem cell_modify {w : World} {B : Nat} {cur : Array Value} {e : TypeId} (h : w.heap[B]? = some (.cells cur e (0, 0))) (j : Nat) (u : Value) :
    (w.setCell ⟨B, j, none⟩ u).heap[B]? = some (.cells (cur.setIfInBounds j u) e (0, 0)) := by
  simp [World.setCell, Array.getElem?_modify, h]
theorem frozen_cells {w : World} {B : Nat} {cur : Array Value} {e : TypeId} (h : w.heap[B]? = some (.cells cur e (0, 0))) (j : Nat) : w.frozen? ⟨B, j, none⟩ = false := by
  simp [World.frozen?, h]
theorem w64 {x : Int} (h0 : -9223372036854775808 ≤ x) (h1 : x ≤ 9223372036854775807) : wrap64 x = x := by unfold wrap64; omega
end Go.Proofs.YtbkimhbpcmbflaaDoor.C
set_option linter.unusedVariables false
set_option linter.unusedSimpArgs false
namespace Go.Proofs.YtbkimhbpcmbflaaDoor.C
open Go Go.RowKit Go.Proofs.YtbkimhbpcmbflaaDoor.M
/-- a row of whole numbers that is read: below block B -/
def Rd (w : World) (B : Nat) (k : IntKind) (A : Option Addr) (xs : List Int) : Prop :=
  xs = [] ∨ ∃ x : Addr, A = some x ∧ x.block < B ∧ ∀ j u, xs[j]? = some u → w.cell? (x.add j) = some (.int k u)
theorem add_block (a : Addr) (n : Nat) : (a.add n).block = a.block := by unfold Addr.add; split <;> rfl
theorem Rd.below {w w' : World} {B B' : Nat} {k : IntKind} {A : Option Addr} {xs : List Int} (h : Rd w B k A xs) (hb : Below B' w w') (hB : B ≤ B') : Rd w' B k A xs := by
  rcases h with h | ⟨x, e, hlt, hc⟩
  · exact .inl h
  · exact .inr ⟨x, e, hlt, fun j u hj => (hb.cell (p := x.add j) (by rw [add_block]; omega)).trans (hc j u hj)⟩
theorem Rd.more {w : World} {B B' : Nat} {k : IntKind} {A : Option Addr} {xs : List Int} (h : Rd w B k A xs) (hB : B ≤ B') : Rd w B' k A xs := by
  rcases h with h | ⟨x, e, hlt, hc⟩
  · exact .inl h
  · exact .inr ⟨x, e, by omega, hc⟩
theorem Row.reads {w : World} {base : Nat} {e : TypeId} {k : IntKind} {v : Value} {xs : List Int} (h : Row w base e k v xs) : ∃ A c, v = .slice A xs.length c ∧ xs.length ≤ c ∧ Rd w w.heap.size k A xs := by
  have h0 := h
  rcases h.2 with ⟨rfl, hn⟩ | ⟨g, cap, cur, rfl, hg, hh, hnc, hm, hcs, ht⟩
  · exact ⟨none, 0, by rw [hn], by omega, .inl (List.eq_nil_of_length_eq_zero hn)⟩
  · exact ⟨_, cap, rfl, hnc, .inr ⟨⟨g, 0, none⟩, rfl, (Array.getElem?_eq_some_iff.1 hh).1, fun j u hj => World.ownsRow.cells h0 (g := g) rfl j (.int k u) (by rw [List.getElem?_map, hj]; rfl)⟩⟩
/-- bytes as cells -/
def bcells (bs : List UInt8) : List Value := bs.map fun b => Value.int .u8 (b.toNat : Int)
theorem bcells_append (a b : List UInt8) : bcells (a ++ b) = bcells a ++ bcells b := by simp [bcells]
theorem Tryd.infoByte : (Tryd.prog.info? 5).map (fun i => (i.zero, i.size, i.bytes)) = some (some (.int .u8 0), 1, 1) := by kernel_rfl
end Go.Proofs.YtbkimhbpcmbflaaDoor.C
set_option linter.unusedVariables false
set_option linter.unusedSimpArgs false
namespace Go.Proofs.YtbkimhbpcmbflaaDoor.E
open Go Go.RowKit Go.Extern.Stop Go.Stop Go.Extern
end Go.Proofs.YtbkimhbpcmbflaaDoor.E
set_option linter.unusedVariables false
set_option linter.unusedSimpArgs false
namespace Go.Proofs.YtbkimhbpcmbflaaDoor.E
open Go Go.RowKit Go.Extern.Stop Go.Stop Go.Extern
end Go.Proofs.YtbkimhbpcmbflaaDoor.E
set_option linter.unusedVariables false
set_option linter.unusedSimpArgs false
namespace Go.Proofs.YtbkimhbpcmbflaaDoor.E
open Go Go.RowKit
end Go.Proofs.YtbkimhbpcmbflaaDoor.E
set_option linter.unusedVariables false
set_option linter.unusedSimpArgs false
namespace Go.Proofs.YtbkimhbpcmbflaaDoor.C
open Go Go.RowKit Go.Proofs.YtbkimhbpcmbflaaDoor.M Go.Proofs.YtbkimhbpcmbflaaDoor.E
/-- errors.errorType as it is laid -/
def HE (w : World) : Prop := w.cell? ⟨2, 0, none⟩ = some (.iface 146 (.agg #[.pointer (some ⟨4, 33, none⟩)]))
theorem HE.lt {w : World} (h : HE w) : 2 < w.heap.size := by
  rcases Nat.lt_or_ge 2 w.heap.size with h' | h'
  · exact h'
  · unfold HE at h
    simp [World.cell?, Array.getElem?_eq_none h'] at h
theorem HE.below {w w' : World} {B : Nat} (h : HE w) (hb : Below B w w') (hB : w.heap.size ≤ B) : HE w' :=
  (hb.cell (p := ⟨2, 0, none⟩) (by have := h.lt; show 2 < B; omega)).trans h
theorem Row.below {w w' : World} {base : Nat} {e : TypeId} {k : IntKind} {v : Value} {xs : List Int} (h : Row w base e k v xs) (hb : Below w.heap.size w w') : Row w' base e k v xs := by
  refine ⟨h.1, ?_⟩
  rcases h.2 with h | ⟨g, cap, cur, h1, h2, h3, h4⟩
  · exact .inl h
  · exact .inr ⟨g, cap, cur, h1, h2, (hb.block g (Array.getElem?_eq_some_iff.1 h3).1).trans h3, h4⟩
end Go.Proofs.YtbkimhbpcmbflaaDoor.C
set_option linter.unusedVariables false
set_option linter.unusedSimpArgs false
namespace Go.Proofs.YtbkimhbpcmbflaaDoor.C
open Go Go.RowKit Go.Proofs.YtbkimhbpcmbflaaDoor.M Go.Proofs.YtbkimhbpcmbflaaDoor.PAll Go.Proofs.YtbkimhbpcmbflaaDoorW.PrintWords
section
variable (s : ByteArray) (p : Nat) (hs : s.size ≤ 140737488351232)
include hs in
end
section
variable (s : ByteArray) (p : Nat) (hs : s.size ≤ 140737488351232) (hp : p < s.size)
def x2 (a b : Nat) : Nat := a % 32 * 64 + b % 64
include hs hp in
def chr (x : Nat) : Prop := x < 55296 ∨ 57344 ≤ x ∧ x ≤ 1114111
instance (x : Nat) : Decidable (chr x) := inferInstanceAs (Decidable (_ ∨ _))
include hs hp in
include hs hp in
end
end Go.Proofs.YtbkimhbpcmbflaaDoor.C
set_option linter.unusedVariables false
set_option linter.unusedSimpArgs false
namespace Go.Proofs.YtbkimhbpcmbflaaDoor.C
open Go Go.RowKit Go.Proofs.YtbkimhbpcmbflaaDoor.M Go.Proofs.YtbkimhbpcmbflaaDoor.E Go.Proofs.YtbkimhbpcmbflaaDoor.PAll Go.Proofs.YtbkimhbpcmbflaaDoorW.PrintWords
theorem cell_lt {w : World} {b o : Nat} {v : Value} (h : w.cell? ⟨b, o, none⟩ = some v) : b < w.heap.size := by
  rcases Nat.lt_or_ge b w.heap.size with h' | h'
  · exact h'
  · simp [World.cell?, Array.getElem?_eq_none h'] at h
theorem tabs_below {w w' : World} {g3 g4 B : Nat} (h : Lib.Utf8Tabs g3 g4 w) (hb : Below B w w') (hB : w.heap.size ≤ B) : Lib.Utf8Tabs g3 g4 w' := by
  have l3 := cell_lt (h.1 0 (by omega))
  have l4 := cell_lt (h.2 0 (by omega)).1
  exact ⟨fun c hc => (hb.cell (p := ⟨g3, c, none⟩) (by show g3 < B; omega)).trans (h.1 c hc), fun i hi => ⟨(hb.cell (p := ⟨g4, 2 * i, none⟩) (by show g4 < B; omega)).trans (h.2 i hi).1, (hb.cell (p := ⟨g4, 2 * i + 1, none⟩) (by show g4 < B; omega)).trans (h.2 i hi).2⟩⟩
end Go.Proofs.YtbkimhbpcmbflaaDoor.C
set_option linter.unusedVariables false
set_option linter.unusedSimpArgs false
namespace Go.Proofs.YtbkimhbpcmbflaaDoor.C
open Go Go.RowKit Go.Proofs.YtbkimhbpcmbflaaDoor.M Go.Proofs.YtbkimhbpcmbflaaDoor.E Go.Proofs.YtbkimhbpcmbflaaDoor.PAll Go.Proofs.YtbkimhbpcmbflaaDoorW.PrintWords
theorem C_of {w : World} {B : Nat} {k : IntKind} {A : Option Addr} {xs : List Int} (h : Rd w B k A xs) (hl : xs.length ≤ 9223372036854775807) : (Kd.int k).C w A xs.length xs := by
  refine ⟨rfl, hl, fun hp => ?_⟩
  rcases h with rfl | ⟨x, rfl, hb, hc⟩
  · simp at hp
  · refine ⟨x, rfl, fun j p hj => ⟨[.int k p], rfl, rfl, fun i u hi => ?_⟩⟩
    rcases i with _ | i
    · cases hi
      have := hc j p hj
      simpa [Kd.int, Kd.scalar] using this
    · simp at hi
/-- a slice of whole numbers, as it comes in -/
def IsRow (k : IntKind) (w : World) (a : Option Addr) (len cap : Nat) (zs : List Int) : Prop :=
  (a = none ∧ len = 0 ∧ cap = 0 ∧ zs = []) ∨
  ∃ x, a = some x ∧ (0 < cap → x.block < w.heap.size) ∧ len ≤ cap ∧ cap ≤ maxLen ∧ zs.length = cap ∧ (∀ i, i < zs.length → w.cell? (x.add i) = some (.int k (zs.getD i 0))) ∧ ∀ n ∈ zs, (Lit.int k n).wf = true
theorem cell_blk {w : World} {p : Addr} {v : Value} (h : w.cell? p = some v) : p.block < w.heap.size := by
  rcases Nat.lt_or_ge p.block w.heap.size with h' | h'
  · exact h'
  · simp [World.cell?, Array.getElem?_eq_none h'] at h
theorem IsRow.rd {k : IntKind} {w : World} {a : Option Addr} {len cap : Nat} {zs : List Int} (h : IsRow k w a len cap zs) : (zs.take len).length = len ∧ Rd w w.heap.size k a (zs.take len) ∧ len ≤ cap ∧ ∀ x ∈ zs.take len, (Lit.int k x).wf = true := by
  rcases h with ⟨rfl, rfl, rfl, rfl⟩ | ⟨x, rfl, hb, hl, hm, hz, hc, hw⟩
  · exact ⟨rfl, .inl rfl, Nat.le_refl _, by simp⟩
  · refine ⟨by rw [List.length_take]; omega, ?_, hl, fun y hy => hw y (List.mem_of_mem_take hy)⟩
    rcases Nat.eq_zero_or_pos len with h0 | h0
    · left; rw [h0]; rfl
    refine .inr ⟨x, rfl, hb (by omega), fun j u hj => ?_⟩
    rw [List.getElem?_take] at hj
    split at hj
    · have hlt := (List.getElem?_eq_some_iff.1 hj).1
      rw [hc j hlt, List.getD_eq_getElem?_getD, hj]; rfl
    · cases hj
end Go.Proofs.YtbkimhbpcmbflaaDoor.C
set_option linter.unusedVariables false
set_option linter.unusedSimpArgs false
namespace Go.Proofs.YtbkimhbpcmbflaaDoor.C
open Go Go.RowKit Go.Proofs.YtbkimhbpcmbflaaDoor.M Go.Proofs.YtbkimhbpcmbflaaDoor.E Go.Proofs.YtbkimhbpcmbflaaDoor.PAll Go.Proofs.YtbkimhbpcmbflaaDoorW.PrintWords
theorem wi (n : Nat) (h : (n : Int) + 1 ≤ 9223372036854775807) : wrap64 ((n : Int) + 1) = ((n + 1 : Nat) : Int) := by rw [w64 (by omega) (by omega)]; omega
end Go.Proofs.YtbkimhbpcmbflaaDoor.C
set_option linter.unusedVariables false
set_option linter.unusedSimpArgs false
namespace Go.Proofs.YtbkimhbpcmbflaaDoor.C
open Go Go.RowKit Go.Proofs.YtbkimhbpcmbflaaDoor.M Go.Proofs.YtbkimhbpcmbflaaDoor.E Go.Proofs.YtbkimhbpcmbflaaDoor.PAll Go.Proofs.YtbkimhbpcmbflaaDoorW.PrintWords
end Go.Proofs.YtbkimhbpcmbflaaDoor.C
set_option linter.unusedVariables false
set_option linter.unusedSimpArgs false
namespace Go.Proofs.YtbkimhbpcmbflaaDoor.C
open Go Go.RowKit Go.Proofs.YtbkimhbpcmbflaaDoor.M Go.Proofs.YtbkimhbpcmbflaaDoor.E Go.Proofs.YtbkimhbpcmbflaaDoor.PAll Go.Proofs.YtbkimhbpcmbflaaDoorW.PrintWords
theorem runes_len (l : List UInt8) : (runes l).length = (sfx l).length := by simp [runes]
/-- Go's own conversion of a text into a list of runes -/
theorem runes_conv (s : ByteArray) (W : World) (h46 : (sfx (bl s)).length ≤ 70368744177664) :
    ∃ cap W', (convert 9 22 (.string s)).run Tryd.prog W = .ok (.slice (some ⟨W.heap.size, 0, none⟩) (runes (bl s)).length cap) W' ∧ Rd W' W'.heap.size .i32 (some ⟨W.heap.size, 0, none⟩) (runes (bl s)) ∧ (runes (bl s)).length ≤ cap ∧ Below W.heap.size W W' := by
  have hsz : (Conv.runesFrom s s.size 0 #[]).size = (sfx (bl s)).length := conv_runes_size s
  have hli : (Conv.runesFrom s s.size 0 #[]).toList = (runes (bl s)).map (Value.int .i32) := conv_runes s
  have hcv := run_runes_of_string (P := Tryd.prog) W 9 22 21 s Tryd.underlying9 Tryd.underlying22 Tryd.underlying21 (by omega)
  have hge := grownCap_ge W (Conv.runesFrom s s.size 0 #[]).size 0 21
  have hrl := runes_len (bl s)
  have hse : (Conv.runesFrom s s.size 0 #[]).size = (runes (bl s)).length := by omega
  rw [hse] at hcv hge
  refine ⟨_, _, hcv, ?_, by omega, ?_⟩
  · refine .inr ⟨⟨W.heap.size, 0, none⟩, rfl, by simp, fun j u hj => ?_⟩
    have ea : (⟨W.heap.size, 0, none⟩ : Addr).add j = ⟨W.heap.size, j, none⟩ := by unfold Addr.add; split <;> simp_all
    have hb := heap_alloc_new W.drew (.cells (Conv.runesFrom s s.size 0 #[] ++ Array.replicate (grownCap W (runes (bl s)).length 0 21 - (runes (bl s)).length) (.int .i32 0)) 21)
    have hd : W.drew.heap.size = W.heap.size := by simp
    rw [hd] at hb
    rw [ea, cell_of_row _ _ _ _ _ _ hb]
    have hjl := (List.getElem?_eq_some_iff.1 hj).1
    rw [Array.getElem?_append_left (by omega), ← Array.getElem?_toList, hli, List.getElem?_map, hj]
    rfl
  · exact ((Below.refl _ W).drew).alloc (by simp) _
theorem ba_ext {a b : ByteArray} (h : bl a = bl b) : a = b := by
  have h' : a.data = b.data := Array.toList_inj.1 h
  cases a; cases b
  exact congrArg ByteArray.mk h'
end Go.Proofs.YtbkimhbpcmbflaaDoor.C
set_option linter.unusedVariables false
set_option linter.unusedSimpArgs false
set_option maxRecDepth 100000
namespace Go.Proofs.YtbkimhbpcmbflaaDoor.M
open Go Go.Lib
/-- how many bytes a first byte asks for (0: it begins nothing), and between which its second one lies -/
def leadN (c : Nat) : Nat := if c < 128 then 1 else if c < 194 then 0 else if c < 224 then 2 else if c < 240 then 3 else if c < 245 then 4 else 0
def leadLo (c : Nat) : Nat := if c = 224 then 160 else if c = 240 then 144 else 128
def leadHi (c : Nat) : Nat := if c = 237 then 159 else if c = 244 then 143 else 191
/-- how many bytes from the head on are a beginning of some character's -/
def bgN (b0 b1 b2 b3 : Nat) : Nat :=
  if leadN b0 ≤ 1 then leadN b0
  else if b1 < leadLo b0 ∨ leadHi b0 < b1 then 1
  else if leadN b0 ≤ 2 ∨ b2 < 128 ∨ 191 < b2 then 2
  else if leadN b0 ≤ 3 ∨ b3 < 128 ∨ 191 < b3 then 3
  else 4
def nb (l : List UInt8) : Nat := leadN (b0 l)
def bg (l : List UInt8) : Nat := bgN (b0 l) (l.getD 1 0).toNat (l.getD 2 0).toNat (l.getD 3 0).toNat
theorem leadN_le (c : Nat) : leadN c ≤ 4 := by unfold leadN; repeat' split
                                               all_goals omega
theorem leadLo_ge (c : Nat) : 128 ≤ leadLo c := by unfold leadLo; repeat' split
                                                   all_goals omega
theorem leadHi_le (c : Nat) : leadHi c ≤ 191 := by unfold leadHi; repeat' split
                                                   all_goals omega
theorem bgN_le (b0 b1 b2 b3 : Nat) : bgN b0 b1 b2 b3 ≤ leadN b0 := by
  unfold bgN
  repeat' split
  all_goals omega
theorem lead_first : ∀ c, c < 256 → (firstT c = 240 ∧ leadN c = 1 ∧ c < 128) ∨ (firstT c = 241 ∧ leadN c = 0) ∨ (firstT c < 240 ∧ firstT c % 8 = leadN c ∧ 2 ≤ leadN c ∧ accLo (firstT c / 16) = leadLo c ∧ accHi (firstT c / 16) = leadHi c) := by
  decide +kernel
/-- what decoding makes of it -/
theorem decodeN_bg (n b0 b1 b2 b3 : Nat) (hn : 1 ≤ n) (h0 : b0 < 256) (h1 : b1 < 256) (h2 : b2 < 256) (h3 : b3 < 256) (hk : bgN b0 b1 b2 b3 ≤ n) :
    ((bgN b0 b1 b2 b3 < leadN b0 ∨ leadN b0 = 0) ∧ decodeN n b0 b1 b2 b3 = (65533, 1)) ∨
    (bgN b0 b1 b2 b3 = leadN b0 ∧ 1 ≤ leadN b0 ∧ (decodeN n b0 b1 b2 b3).2 = leadN b0 ∧
      (decodeN n b0 b1 b2 b3).1 = (if leadN b0 = 1 then b0 else if leadN b0 = 2 then b0 % 32 * 64 + b1 % 64 else if leadN b0 = 3 then b0 % 16 * 4096 + b1 % 64 * 64 + b2 % 64 else b0 % 8 * 262144 + b1 % 64 * 4096 + b2 % 64 * 64 + b3 % 64)) := by
  have hle := leadN_le b0
  rcases lead_first b0 h0 with ⟨f, e, _⟩ | ⟨f, e⟩ | ⟨f, e, g2, e2, e3⟩
  · right
    have e2 : bgN b0 b1 b2 b3 = 1 := by unfold bgN; rw [e]; rfl
    rw [ascii_eq n b0 b1 b2 b3 f, e, e2]
    exact ⟨rfl, by omega, rfl, rfl⟩
  · left
    exact ⟨.inr e, bad_eq n b0 b1 b2 b3 h0 f⟩
  · have hs := slow_eq n b0 b1 b2 b3 hn h1 h2 h3 f
    rw [e, e2, e3] at hs
    rw [← hs]
    unfold bgN at hk ⊢
    unfold slowN
    generalize leadN b0 = L at *
    generalize leadLo b0 = lo at *
    generalize leadHi b0 = hi at *
    rw [if_neg (by omega)] at hk ⊢
    by_cases c1 : b1 < lo ∨ hi < b1
    · left
      rw [if_pos c1] at hk ⊢
      rw [if_pos c1]
      refine ⟨.inl (by omega), ?_⟩
      split <;> rfl
    · rw [if_neg c1] at hk ⊢
      rw [if_neg c1]
      by_cases l2 : L ≤ 2
      · right
        rw [if_pos (.inl l2)] at hk ⊢
        rw [if_pos l2]
        obtain rfl : L = 2 := by omega
        rw [if_neg (show ¬ n < 2 by omega)]
        exact ⟨rfl, by omega, rfl, rfl⟩
      · rw [if_neg l2]
        by_cases c2 : b2 < 128 ∨ 191 < b2
        · left
          rw [if_pos (.inr c2)] at hk ⊢
          rw [if_pos c2]
          refine ⟨.inl (by omega), ?_⟩
          split <;> rfl
        · have cc : ¬ (L ≤ 2 ∨ b2 < 128 ∨ 191 < b2) := by omega
          rw [if_neg cc] at hk ⊢
          rw [if_neg c2]
          by_cases l3 : L ≤ 3
          · right
            rw [if_pos (.inl l3)] at hk ⊢
            rw [if_pos l3]
            obtain rfl : L = 3 := by omega
            rw [if_neg (show ¬ n < 3 by omega)]
            exact ⟨rfl, by omega, rfl, rfl⟩
          · rw [if_neg l3]
            obtain rfl : L = 4 := by omega
            by_cases c3 : b3 < 128 ∨ 191 < b3
            · left
              rw [if_pos (.inr c3)] at hk ⊢
              rw [if_pos c3]
              refine ⟨.inl (by omega), ?_⟩
              split <;> rfl
            · right
              have cc : ¬ (4 ≤ 3 ∨ b3 < 128 ∨ 191 < b3) := by omega
              rw [if_neg cc] at hk ⊢
              rw [if_neg c3, if_neg (show ¬ n < 4 by omega)]
              exact ⟨rfl, by omega, rfl, rfl⟩
def bt (l : List UInt8) (i : Nat) : Nat := (l.getD i 0).toNat
theorem bt_lt (l : List UInt8) (i : Nat) : bt l i < 256 := (l.getD i 0).toNat_lt
theorem bt_out {l : List UInt8} {i : Nat} (h : l.length ≤ i) : bt l i = 0 := by unfold bt; rw [List.getD_eq_getElem?_getD, List.getElem?_eq_none h]; rfl
theorem bg_def (l : List UInt8) : bg l = bgN (bt l 0) (bt l 1) (bt l 2) (bt l 3) := rfl
theorem nb_def (l : List UInt8) : nb l = leadN (bt l 0) := rfl
theorem bg_nb (l : List UInt8) : bg l ≤ nb l := bgN_le _ _ _ _
theorem nb_le (l : List UInt8) : nb l ≤ 4 := leadN_le _
theorem bgN_len (b0 b1 b2 b3 : Nat) : (2 ≤ bgN b0 b1 b2 b3 → 128 ≤ b1 ∧ b1 ≤ 191) ∧ (3 ≤ bgN b0 b1 b2 b3 → 128 ≤ b2 ∧ b2 ≤ 191) ∧ (4 ≤ bgN b0 b1 b2 b3 → 128 ≤ b3 ∧ b3 ≤ 191) := by
  have h1 := leadLo_ge b0
  have h2 := leadHi_le b0
  have h3 := leadN_le b0
  unfold bgN
  generalize leadN b0 = L at *
  generalize leadLo b0 = lo at *
  generalize leadHi b0 = hi at *
  refine ⟨?_, ?_, ?_⟩
  all_goals
    repeat' split
    all_goals omega
/-- the bytes of a beginning behind its first one -/
theorem bg_cont {l : List UInt8} {i : Nat} (h1 : 1 ≤ i) (h : i < bg l) : 128 ≤ bt l i ∧ bt l i ≤ 191 := by
  have hb := bgN_len (bt l 0) (bt l 1) (bt l 2) (bt l 3)
  rw [← bg_def] at hb
  have := bg_nb l
  have := nb_le l
  have : i = 1 ∨ i = 2 ∨ i = 3 := by omega
  rcases this with rfl | rfl | rfl
  · exact hb.1 (by omega)
  · exact hb.2.1 (by omega)
  · exact hb.2.2 (by omega)
theorem bg_len {l : List UInt8} (hl : l ≠ []) : bg l ≤ l.length := by
  have h1 : 1 ≤ l.length := List.length_pos_iff.2 hl
  rcases Nat.lt_or_ge l.length (bg l) with h | h
  · have := bg_cont h1 h
    rw [bt_out (Nat.le_refl _)] at this
    omega
  · exact h
/-- ill-formed, or whole -/
theorem ill_or {l : List UInt8} (hl : l ≠ []) : (ill l = true ∧ (bg l < nb l ∨ nb l = 0) ∧ dc l = 65533 ∧ dw l = 1) ∨
    (ill l = false ∧ bg l = nb l ∧ 1 ≤ nb l ∧ dw l = nb l ∧
      dc l = (if nb l = 1 then bt l 0 else if nb l = 2 then bt l 0 % 32 * 64 + bt l 1 % 64 else if nb l = 3 then bt l 0 % 16 * 4096 + bt l 1 % 64 * 64 + bt l 2 % 64 else bt l 0 % 8 * 262144 + bt l 1 % 64 * 4096 + bt l 2 % 64 * 64 + bt l 3 % 64)) := by
  have h1 : 1 ≤ l.length := List.length_pos_iff.2 hl
  have h := decodeN_bg l.length (bt l 0) (bt l 1) (bt l 2) (bt l 3) h1 (bt_lt _ _) (bt_lt _ _) (bt_lt _ _) (bt_lt _ _) (by rw [← bg_def]; exact bg_len hl)
  have e : decodeN l.length (bt l 0) (bt l 1) (bt l 2) (bt l 3) = decodeL l := (decodeL_N l).symm
  rw [e, ← bg_def, ← nb_def] at h
  rcases h with ⟨a, b⟩ | ⟨a, b, c, d⟩
  · left
    have e1 : dc l = 65533 := by unfold dc; rw [b]
    have e2 : dw l = 1 := by unfold dw; rw [b]
    exact ⟨by simp [ill, e1, e2], a, e1, e2⟩
  · right
    have c' : dw l = nb l := c
    have d' : dc l = _ := d
    refine ⟨?_, a, b, c', d'⟩
    cases hi : ill l with
    | false => rfl
    | true =>
      exfalso
      have hh : dc l = 65533 ∧ dw l = 1 := by simpa [ill] using hi
      rw [c'] at hh
      have hc := hh.1
      rw [d', if_pos hh.2] at hc
      have := bt_lt l 0
      omega
/-- a byte that goes on is ill-formed at a head -/
theorem ill_cont {l : List UInt8} (hl : l ≠ []) (h : 128 ≤ bt l 0 ∧ bt l 0 ≤ 191) : ill l = true ∧ nb l = 0 ∧ dw l = 1 := by
  have e : nb l = 0 := by rw [nb_def]; unfold leadN; rw [if_neg (by omega), if_pos (by omega)]
  rcases ill_or hl with ⟨a, _, _, d⟩ | ⟨_, _, a, _⟩
  · exact ⟨a, e, d⟩
  · omega
theorem bt_drop (l : List UInt8) (k i : Nat) : bt (l.drop k) i = bt l (k + i) := by
  unfold bt
  simp [List.getD_eq_getElem?_getD, List.getElem?_drop]
theorem bt_take {l : List UInt8} {k i : Nat} : bt (l.take k) i = if i < k then bt l i else 0 := by
  unfold bt
  simp only [List.getD_eq_getElem?_getD, List.getElem?_take]
  split <;> simp
/-- a beginning that is cut -/
theorem bg_take {l : List UInt8} {k : Nat} (hk : 1 ≤ k) : bg (l.take k) = min (bg l) k ∧ nb (l.take k) = nb l := by
  have e0 : bt (l.take k) 0 = bt l 0 := by rw [bt_take, if_pos (by omega)]
  refine ⟨?_, by rw [nb_def, nb_def, e0]⟩
  have e1 : bt (l.take k) 1 = if 1 < k then bt l 1 else 0 := bt_take
  have e2 : bt (l.take k) 2 = if 2 < k then bt l 2 else 0 := bt_take
  have e3 : bt (l.take k) 3 = if 3 < k then bt l 3 else 0 := bt_take
  have h1 := leadLo_ge (bt l 0)
  have h2 := leadHi_le (bt l 0)
  have h3 := leadN_le (bt l 0)
  rcases Nat.lt_or_ge 3 k with h | h
  · rw [if_pos (by omega)] at e1 e2 e3
    rw [bg_def, bg_def, e0, e1, e2, e3]
    have := bgN_le (bt l 0) (bt l 1) (bt l 2) (bt l 3)
    omega
  · have : k = 1 ∨ k = 2 ∨ k = 3 := by omega
    rcases this with rfl | rfl | rfl
    · rw [if_neg (by omega)] at e1 e2 e3
      rw [bg_def, bg_def, e0, e1, e2, e3]
      unfold bgN
      repeat' split
      all_goals omega
    · rw [if_pos (by omega)] at e1
      rw [if_neg (by omega)] at e2 e3
      rw [bg_def, bg_def, e0, e1, e2, e3]
      unfold bgN
      repeat' split
      all_goals omega
    · rw [if_pos (by omega)] at e1 e2
      rw [if_neg (by omega)] at e3
      rw [bg_def, bg_def, e0, e1, e2, e3]
      unfold bgN
      repeat' split
      all_goals omega
/-- is a text's first unit settled? -/
def fullP (l : List UInt8) : Bool := decide (l ≠ [] ∧ (bg l = nb l ∨ bg l < l.length))
end Go.Proofs.YtbkimhbpcmbflaaDoor.M
set_option linter.unusedVariables false
set_option linter.unusedSimpArgs false
set_option maxRecDepth 100000
namespace Go.Proofs.YtbkimhbpcmbflaaDoor.M
open Go Go.Lib
/-- how many bytes belong together at an ill-formed head -/
def pl (l : List UInt8) : Nat := max 1 (bg l)
theorem pl_pos (l : List UInt8) : 1 ≤ pl l := Nat.le_max_left _ _
theorem pl_len {l : List UInt8} (h : l ≠ []) : pl l ≤ l.length := by
  have h1 : 1 ≤ l.length := List.length_pos_iff.2 h
  have := bg_len h
  unfold pl; omega
theorem pl_three {l : List UInt8} (h : l ≠ []) (hi : ill l = true) : pl l ≤ 3 := by
  have := bg_nb l
  have := nb_le l
  rcases ill_or h with ⟨_, a, _⟩ | ⟨a, _⟩
  · unfold pl; omega
  · rw [hi] at a; cases a
/-- the pieces: where each begins (what is left of the text there), and how many bytes it has -/
def pieces (l : List UInt8) : List (List UInt8 × Nat) :=
  if h : l = [] then [] else if ill l = true then (l, pl l) :: pieces (l.drop (pl l)) else pieces (l.drop (dw l))
termination_by l.length
decreasing_by
  · have h1 := pl_pos l
    have h2 := List.length_pos_iff.2 h
    simp; omega
  · have h1 := dw_pos h
    have h2 := List.length_pos_iff.2 h
    simp; omega
theorem pieces_nil : pieces [] = [] := by rw [pieces]; simp
theorem pieces_ill {l : List UInt8} (h : l ≠ []) (hi : ill l = true) : pieces l = (l, pl l) :: pieces (l.drop (pl l)) := by rw [pieces]; simp [h, hi]
theorem pieces_ok {l : List UInt8} (h : l ≠ []) (hi : ill l = false) : pieces l = pieces (l.drop (dw l)) := by rw [pieces]; simp [h, hi]
/-- is a cut behind k bytes of an ill-formed head settled? -/
theorem full_cut {t : List UInt8} (hne : t ≠ []) (hi : ill t = true) {k : Nat} (h1 : 1 ≤ k) (hk : k ≤ t.length) : fullP (t.take k) = decide (bg t < k) := by
  have hb := bg_take (l := t) h1
  have hl : (t.take k).length = k := by rw [List.length_take]; omega
  have hn : t.take k ≠ [] := by intro e; rw [e] at hl; simp at hl; omega
  have hx : bg t < nb t ∨ nb t = 0 := by
    rcases ill_or hne with ⟨_, a, _⟩ | ⟨a, _⟩
    · exact a
    · rw [hi] at a; cases a
  have h3 := bg_nb t
  unfold fullP
  rw [hb.1, hb.2, hl]
  by_cases hlt : bg t < k
  · rw [decide_eq_true hlt, decide_eq_true]
    exact ⟨hn, .inr (by omega)⟩
  · rw [decide_eq_false hlt, decide_eq_false]
    rintro ⟨_, h | h⟩ <;> omega
/-- which bytes begin what is ill-formed -/
theorem ill_test {t : List UInt8} (hne : t ≠ []) : ill t = (decide (dw t ≤ 1) && decide (128 ≤ bt t 0)) := by
  rcases ill_or hne with ⟨a, _, _, d⟩ | ⟨a, _, b, d, _⟩
  · have := (ill_b0 hne a).1
    rw [a, d]
    have e : bt t 0 = b0 t := rfl
    simp [e, this]
  · rw [a, d]
    by_cases h : nb t ≤ 1
    · have e : nb t = 1 := by omega
      have : bt t 0 < 128 := by
        rw [nb_def] at e
        unfold leadN at e
        split at e
        · assumption
        · repeat' split at e
          all_goals omega
      simp [e]; omega
    · simp; omega
/-- how far a walk over the units has come: text l, at r what is left; e: the end of the piece that was found last; got: the pieces so far -/
structure At (l r : List UInt8) (e : Nat) (got : List (List UInt8 × Nat)) : Prop where
  suf : ∃ p, r = l.drop p ∧ p + r.length = l.length
  le : e ≤ l.length
  out : l.length - r.length < e → pieces l = got ++ pieces (l.drop e) ∧ ∀ i, l.length - r.length ≤ i → i < e → 128 ≤ bt l i ∧ bt l i ≤ 191
  done : e ≤ l.length - r.length → pieces l = got ++ pieces r
theorem At.start (l : List UInt8) : At l l 0 [] := ⟨⟨0, by simp, by simp⟩, Nat.zero_le _, fun h => by omega, fun _ => by simp⟩
theorem At.next {l r : List UInt8} {p : Nat} (h : r = l.drop p) (hp : p + r.length = l.length) {w : Nat} (hw : w ≤ r.length) : r.drop w = l.drop (p + w) ∧ (p + w) + (r.drop w).length = l.length := by
  subst h
  rw [List.drop_drop]
  exact ⟨rfl, by simp; simp at hp hw; omega⟩
/-- within a piece -/
theorem At.skip {l r : List UInt8} {e : Nat} {got : List (List UInt8 × Nat)} (h : At l r e got) (hne : r ≠ []) (hlt : l.length - r.length < e) : At l (r.drop (dw r)) e got := by
  obtain ⟨p, hr, hp⟩ := h.suf
  have hpl : l.length - r.length = p := by omega
  obtain ⟨ho, hc⟩ := h.out hlt
  rw [hpl] at hc hlt
  have h0 := hc p (Nat.le_refl _) hlt
  have hb : bt r 0 = bt l p := by rw [hr, bt_drop, Nat.add_zero]
  obtain ⟨_, _, hd⟩ := ill_cont hne (by rw [hb]; exact h0)
  have h1 : 1 ≤ r.length := List.length_pos_iff.2 hne
  rw [hd]
  obtain ⟨e1, e2⟩ := At.next hr hp (w := 1) h1
  refine ⟨⟨p + 1, e1, e2⟩, h.le, fun hl => ⟨ho, fun i hi hie => hc i (by omega) hie⟩, fun hl => ?_⟩
  have : e = p + 1 := by omega
  rw [ho, this, e1]
/-- a character -/
theorem At.char {l r : List UInt8} {e : Nat} {got : List (List UInt8 × Nat)} (h : At l r e got) (hne : r ≠ []) (hge : e ≤ l.length - r.length) (hi : ill r = false) : At l (r.drop (dw r)) e got := by
  obtain ⟨p, hr, hp⟩ := h.suf
  have hw := dw_pos hne
  have hwl := dw_len hne
  obtain ⟨e1, e2⟩ := At.next hr hp (w := dw r) hwl
  refine ⟨⟨p + dw r, e1, e2⟩, h.le, fun hl => by omega, fun _ => ?_⟩
  rw [h.done hge, pieces_ok hne hi]
/-- a piece begins -/
theorem At.piece {l r : List UInt8} {e : Nat} {got : List (List UInt8 × Nat)} (h : At l r e got) (hne : r ≠ []) (hge : e ≤ l.length - r.length) (hi : ill r = true) :
    At l (r.drop (dw r)) (l.length - r.length + pl r) (got ++ [(r, pl r)]) ∧ (got ++ [(r, pl r)]) <+: pieces l := by
  obtain ⟨p, hr, hp⟩ := h.suf
  have hpp := pl_pos r
  have hpl := pl_len hne
  have hd : dw r = 1 := by
    rcases ill_or hne with ⟨_, _, _, d⟩ | ⟨a, _⟩
    · exact d
    · rw [hi] at a; cases a
  have h1 : 1 ≤ r.length := List.length_pos_iff.2 hne
  have hpieces : pieces l = (got ++ [(r, pl r)]) ++ pieces (r.drop (pl r)) := by rw [h.done hge, pieces_ill hne hi]; simp
  obtain ⟨e1, e2⟩ := At.next hr hp (w := 1) h1
  obtain ⟨f1, f2⟩ := At.next hr hp (w := pl r) hpl
  have hpos : l.length - r.length = p := by omega
  rw [hd, hpos]
  refine ⟨⟨⟨p + 1, e1, e2⟩, by omega, fun hl => ⟨by rw [hpieces, f1], fun i hi1 hi2 => ?_⟩, fun hl => ?_⟩, ⟨_, hpieces.symm⟩⟩
  · have hb : bt l i = bt r (i - p) := by rw [hr, bt_drop]; congr 1; omega
    rw [hb]
    have hbg : pl r = bg r := by unfold pl at *; omega
    exact bg_cont (by omega) (by omega)
  · have : pl r = 1 := by omega
    rw [hpieces, this]
theorem At.fin {l : List UInt8} {e : Nat} {got : List (List UInt8 × Nat)} (h : At l [] e got) : got = pieces l := by
  have hle := h.le
  have := h.done (by simpa using hle)
  rw [pieces_nil, List.append_nil] at this
  exact this.symm
end Go.Proofs.YtbkimhbpcmbflaaDoor.M
namespace Go.Proofs.YtbkimhbpcmbflaaDoor.M
open Go Go.Lib
/-- the same, as Go's own text asks it -/
def fullN (n X b1 b2 : Nat) : Bool := decide (X % 8 ≤ n) || (decide (1 < n) && (decide (b1 < accLo (X / 16)) || decide (accHi (X / 16) < b1))) || (decide (2 < n) && (decide (b2 < 128) || decide (191 < b2)))
theorem full_N {l : List UInt8} (hne : l ≠ []) : fullP l = fullN l.length (firstT (bt l 0)) (bt l 1) (bt l 2) := by
  have h1 : 1 ≤ l.length := List.length_pos_iff.2 hne
  have hb := bg_len hne
  have hn := bg_nb l
  have h4 := nb_le l
  have e1 : l.length ≤ 1 → bt l 1 = 0 := fun h => bt_out h
  have e2 : l.length ≤ 2 → bt l 2 = 0 := fun h => bt_out h
  have e3 : l.length ≤ 3 → bt l 3 = 0 := fun h => bt_out h
  have hlo := leadLo_ge (bt l 0)
  have hhi := leadHi_le (bt l 0)
  have hp : fullP l = decide (bg l = nb l ∨ bg l < l.length) := by unfold fullP; simp [hne]
  rw [hp]
  unfold fullN
  rw [bg_def, nb_def] at *
  rcases lead_first (bt l 0) (bt_lt l 0) with ⟨f, e, _⟩ | ⟨f, e⟩ | ⟨f, e, g2, e2', e3'⟩
  · have : bgN (bt l 0) (bt l 1) (bt l 2) (bt l 3) = 1 := by unfold bgN; rw [e]; rfl
    rw [this, e, f]; simp
  · have : bgN (bt l 0) (bt l 1) (bt l 2) (bt l 3) = 0 := by unfold bgN; rw [e]; rfl
    rw [this, e, f]
    have : decide (241 % 8 ≤ l.length) = true := by simp; omega
    rw [this]; simp
  · rw [e, e2', e3']
    clear e e2' e3' f hp
    unfold bgN at *
    generalize leadN (bt l 0) = L at *
    generalize leadLo (bt l 0) = lo at *
    generalize leadHi (bt l 0) = hi at *
    generalize bt l 1 = x at *
    generalize bt l 2 = y at *
    generalize bt l 3 = z at *
    generalize l.length = n at *
    rw [Bool.eq_iff_iff]
    simp only [Bool.or_eq_true, Bool.and_eq_true, decide_eq_true_eq]
    repeat' split at *
    all_goals omega
end Go.Proofs.YtbkimhbpcmbflaaDoor.M
set_option linter.unusedVariables false
set_option linter.unusedSimpArgs false
set_option maxRecDepth 100000
namespace Go.Proofs.YtbkimhbpcmbflaaDoor.M
open Go Go.Lib
/-- does a character of just w bytes end the text? -/
def endsC (l : List UInt8) (w : Nat) : Prop := w ≤ l.length ∧ 1 ≤ w ∧ nb (l.drop (l.length - w)) = w ∧ bg (l.drop (l.length - w)) = w
theorem drop_ne {l : List UInt8} {w : Nat} (h1 : 1 ≤ w) (h : w ≤ l.length) : l.drop (l.length - w) ≠ [] := by
  intro e; have := congrArg List.length e; simp at this; omega
theorem endsC.unit {l : List UInt8} {w : Nat} (h : endsC l w) : dw (l.drop (l.length - w)) = w ∧ ill (l.drop (l.length - w)) = false := by
  obtain ⟨h1, h2, h3, h4⟩ := h
  rcases ill_or (drop_ne h2 h1) with ⟨_, a, _⟩ | ⟨a, _, _, d, _⟩
  · omega
  · exact ⟨by rw [d, h3], a⟩
/-- the bytes of a character that ends the text: the first begins one, the others go on -/
theorem endsC.bytes {l : List UInt8} {w : Nat} (h : endsC l w) : (∀ i, i < w - 1 → 128 ≤ bt l (l.length - 1 - i) ∧ bt l (l.length - 1 - i) ≤ 191) ∧ (1 < w → 192 ≤ bt l (l.length - w)) ∧ (w = 1 → bt l (l.length - 1) < 128) := by
  obtain ⟨h1, h2, h3, h4⟩ := h
  refine ⟨fun i hi => ?_, fun hw => ?_, fun hw => ?_⟩
  · have := bg_cont (l := l.drop (l.length - w)) (i := w - 1 - i) (by omega) (by omega)
    rw [bt_drop] at this
    have e : l.length - w + (w - 1 - i) = l.length - 1 - i := by omega
    rwa [e] at this
  · rw [nb_def, bt_drop, Nat.add_zero] at h3
    unfold leadN at h3
    repeat' split at h3
    all_goals omega
  · subst hw
    rw [nb_def, bt_drop, Nat.add_zero] at h3
    unfold leadN at h3
    repeat' split at h3
    all_goals omega
/-- the units from r on are the last of l's -/
theorem units_ind {r : List UInt8} (hr : r ≠ []) {Q : List UInt8 → Prop} (h0 : Q r) (h1 : ∀ l, l ≠ [] → (∃ pre, sfx (l.drop (dw l)) = pre ++ sfx r) → Q (l.drop (dw l)) → Q l) : ∀ (pre : List (List UInt8)) (l : List UInt8), sfx l = pre ++ sfx r → Q l
  | [], l, h => by
    by_cases hl : l = []
    · subst hl; rw [sfx_nil, sfx_cons hr] at h; simp at h
    · rw [sfx_cons hl, sfx_cons hr, List.nil_append] at h
      injection h with h _
      rw [h]; exact h0
  | x :: pre, l, h => by
    by_cases hl : l = []
    · subst hl; rw [sfx_nil] at h; simp at h
    · rw [sfx_cons hl, List.cons_append] at h
      injection h with _ h
      exact h1 l hl ⟨pre, h⟩ (units_ind hr h0 h1 pre _ h)
theorem units_drop {l r : List UInt8} {pre : List (List UInt8)} (h : sfx l = pre ++ sfx r) (hr : r ≠ []) : r.length ≤ l.length ∧ r = l.drop (l.length - r.length) := by
  refine units_ind hr (Q := fun l => r.length ≤ l.length ∧ r = l.drop (l.length - r.length)) ⟨Nat.le_refl _, by simp⟩ (fun l hl _ ⟨h1, h2⟩ => ?_) pre l h
  have hw := dw_len hl
  rw [List.length_drop] at h1 h2
  refine ⟨by omega, ?_⟩
  rw [List.drop_drop] at h2
  have e : dw l + (l.length - dw l - r.length) = l.length - r.length := by omega
  rw [e] at h2
  exact h2
theorem endsC.whole {l : List UInt8} {m v : Nat} (h : endsC (l.take m) v) (hm : m ≤ l.length) : nb (l.drop (m - v)) = v ∧ bg (l.drop (m - v)) = v := by
  obtain ⟨h1, h2, h3, h4⟩ := h
  have hl : (l.take m).length = m := by rw [List.length_take]; omega
  rw [hl] at h1 h3 h4
  have e : (l.take m).drop (m - v) = (l.drop (m - v)).take v := by
    rw [List.drop_take]; congr 1; omega
  rw [e] at h3 h4
  obtain ⟨b1, b2⟩ := bg_take (l := l.drop (m - v)) (k := v) h2
  rw [b1] at h4
  rw [b2] at h3
  have := bg_nb (l.drop (m - v))
  exact ⟨h3, by omega⟩
end Go.Proofs.YtbkimhbpcmbflaaDoor.M
set_option linter.unusedVariables false
set_option linter.unusedSimpArgs false
set_option maxRecDepth 100000
namespace Go.Proofs.YtbkimhbpcmbflaaDoor.M
open Go Go.Lib
/-- one piece more: what stands ahead of it, and what is put in its place; how far the text is done -/
def mstep (l : List UInt8) (rep : Nat → List UInt8) (a : List UInt8 × Nat) (x : List UInt8 × Nat) : List UInt8 × Nat :=
  (a.1 ++ ((l.take (l.length - x.1.length)).drop a.2 ++ rep x.2), l.length - x.1.length + x.2)
def mfold (l : List UInt8) (rep : Nat → List UInt8) (pre : List (List UInt8 × Nat)) : List UInt8 × Nat := pre.foldl (mstep l rep) ([], 0)
theorem mfold_snoc (l : List UInt8) (rep : Nat → List UInt8) (pre : List (List UInt8 × Nat)) (x : List UInt8 × Nat) : mfold l rep (pre ++ [x]) = mstep l rep (mfold l rep pre) x := by
  unfold mfold; rw [List.foldl_append]; rfl
/-- a text mended -/
def mend (l : List UInt8) (rep : Nat → List UInt8) : List UInt8 := (mfold l rep (pieces l)).1 ++ l.drop (mfold l rep (pieces l)).2
theorem sfx_rec {Q : List UInt8 → Prop} (h0 : Q []) (h1 : ∀ l, l ≠ [] → ill l = true → Q l) (h2 : ∀ l, l ≠ [] → ill l = false → Q (l.drop (dw l)) → Q l) : ∀ l, Q l := by
  intro l
  induction l using sfx_ind with
  | h0 => exact h0
  | h1 l hl ih =>
    cases hi : ill l with
    | true => exact h1 l hl hi
    | false => exact h2 l hl hi ih
/-- the first piece of a text -/
theorem first_piece (r : List UInt8) : ∀ x more, pieces r = x :: more → ∃ k, x.1 = r.drop k ∧ k + x.1.length = r.length ∧ x.1 ≠ [] ∧ x.2 = pl x.1 ∧ more = pieces (x.1.drop x.2) := by
  induction r using sfx_rec with
  | h0 => intro x more h; rw [pieces_nil] at h; cases h
  | h1 l hl hi =>
    intro x more h
    rw [pieces_ill hl hi] at h
    injection h with h1 h2
    subst h1
    exact ⟨0, by simp, by simp, hl, rfl, h2.symm⟩
  | h2 l hl hi ih =>
    intro x more h
    rw [pieces_ok hl hi] at h
    obtain ⟨k, h1, h2, h3⟩ := ih x more h
    have hw := dw_len hl
    refine ⟨dw l + k, by rw [h1, List.drop_drop], ?_, h3⟩
    rw [List.length_drop] at h2
    omega
/-- what the mending knows between two pieces -/
structure MAt (l : List UInt8) (rep : Nat → List UInt8) (pre : List (List UInt8 × Nat)) : Prop where
  rest : pieces l = pre ++ pieces (l.drop (mfold l rep pre).2)
  le : (mfold l rep pre).2 ≤ l.length
theorem MAt.start (l : List UInt8) (rep : Nat → List UInt8) : MAt l rep [] := ⟨by simp [mfold], Nat.zero_le _⟩
theorem MAt.next {l : List UInt8} {rep : Nat → List UInt8} {pre : List (List UInt8 × Nat)} {x : List UInt8 × Nat} (h : MAt l rep pre) (hp : (pre ++ [x]) <+: pieces l) :
    MAt l rep (pre ++ [x]) ∧ (mfold l rep pre).2 ≤ l.length - x.1.length ∧ x.1.length ≤ l.length ∧ x.2 ≤ x.1.length ∧ x.1 ≠ [] ∧ x.2 = pl x.1 ∧ ill x.1 = ill x.1 := by
  obtain ⟨t, ht⟩ := hp
  have hr := h.rest
  have hle := h.le
  rw [hr, List.append_assoc] at ht
  have ht2 := (List.append_cancel_left ht).symm
  rw [List.cons_append, List.nil_append] at ht2
  obtain ⟨k, h1, h2, h3, h4, h5⟩ := first_piece _ x t ht2
  rw [List.length_drop] at h2
  have hx2 : x.2 ≤ x.1.length := by rw [h4]; exact pl_len h3
  refine ⟨⟨?_, ?_⟩, by omega, by omega, hx2, h3, h4, rfl⟩
  · have e1 : l.length - x.1.length = (mfold l rep pre).2 + k := by omega
    have e : l.drop (l.length - x.1.length + x.2) = x.1.drop x.2 := by
      rw [e1]
      conv => rhs; rw [h1]
      rw [List.drop_drop, List.drop_drop]
      congr 1
      omega
    rw [mfold_snoc, hr, ht2, h5]
    simp only [mstep, List.append_assoc, List.cons_append, List.nil_append]
    rw [e]
  · rw [mfold_snoc]
    simp only [mstep]
    omega
theorem pieces_count (l : List UInt8) : (pieces l).length ≤ l.length := by
  suffices ∀ n (l : List UInt8), l.length ≤ n → (pieces l).length ≤ l.length from this _ l (Nat.le_refl _)
  intro n
  induction n with
  | zero => intro l hl; have : l = [] := List.eq_nil_of_length_eq_zero (by omega); subst this; simp [pieces_nil]
  | succ n ih =>
    intro l hl
    by_cases h : l = []
    · subst h; simp [pieces_nil]
    · have h1 := List.length_pos_iff.2 h
      cases hi : ill l with
      | true =>
        rw [pieces_ill h hi]
        have hp := pl_pos l
        have := ih (l.drop (pl l)) (by rw [List.length_drop]; omega)
        rw [List.length_drop] at this
        simp only [List.length_cons]
        omega
      | false =>
        rw [pieces_ok h hi]
        have hp := dw_pos h
        have := ih (l.drop (dw l)) (by rw [List.length_drop]; omega)
        rw [List.length_drop] at this
        omega
theorem snoc_rec {α : Type} {Q : List α → Prop} (h0 : Q []) (h1 : ∀ l x, Q l → Q (l ++ [x])) (l : List α) : Q l := by
  have : ∀ r : List α, Q r.reverse := fun r => by
    induction r with
    | nil => exact h0
    | cons x r ih => rw [List.reverse_cons]; exact h1 _ _ ih
  have := this l.reverse
  rwa [List.reverse_reverse] at this
theorem pieces_three : ∀ r : List UInt8, ∀ y ∈ pieces r, pl y.1 ≤ 3 := by
  intro r
  suffices ∀ n (r : List UInt8), r.length ≤ n → ∀ y ∈ pieces r, pl y.1 ≤ 3 from this _ r (Nat.le_refl _)
  intro n
  induction n with
  | zero => intro r hr y hy; have : r = [] := List.eq_nil_of_length_eq_zero (by omega); subst this; rw [pieces_nil] at hy; cases hy
  | succ n ihn =>
    intro r hr y hy
    by_cases h : r = []
    · subst h; rw [pieces_nil] at hy; cases hy
    · have h1 := List.length_pos_iff.2 h
      cases hi : ill r with
      | true =>
        rw [pieces_ill h hi] at hy
        rcases List.mem_cons.1 hy with rfl | hy
        · exact pl_three h hi
        · have := pl_pos r
          exact ihn _ (by rw [List.length_drop]; omega) y hy
      | false =>
        rw [pieces_ok h hi] at hy
        have := dw_pos h
        exact ihn _ (by rw [List.length_drop]; omega) y hy
theorem mfold_len {l : List UInt8} {rep : Nat → List UInt8} {M : Nat} (hM : ∀ n, n ≤ 3 → (rep n).length ≤ M) : ∀ pre, pre <+: pieces l → (mfold l rep pre).1.length ≤ (mfold l rep pre).2 + pre.length * M ∧ MAt l rep pre := by
  intro pre
  induction pre using snoc_rec with
  | h0 => intro _; exact ⟨by simp [mfold], MAt.start _ _⟩
  | h1 pre x ih =>
    intro hp
    obtain ⟨i1, i2⟩ := ih (List.IsPrefix.trans ⟨[x], rfl⟩ hp)
    obtain ⟨n1, n2, n3, n4, n5, n6, _⟩ := i2.next hp
    refine ⟨?_, n1⟩
    rw [mfold_snoc]
    have hx3 : x.2 ≤ 3 := by
      have hi : x ∈ pieces l := hp.subset (by simp)
      rw [n6]
      exact pieces_three l x hi
    have hr := hM x.2 hx3
    simp only [mstep, List.length_append, List.length_drop, List.length_take, List.length_singleton]
    have e : (pre.length + 1) * M = pre.length * M + M := by rw [Nat.add_mul, Nat.one_mul]
    omega
end Go.Proofs.YtbkimhbpcmbflaaDoor.M
set_option linter.unusedVariables false
namespace Go.Proofs.YtbkimhbpcmbflaaDoor.Z
open Go Go.RowKit
/-- blocks outside Z lie as they lay -/
structure Keeps (Z : Nat → Prop) (W W' : World) : Prop where
  os : W'.os = W.os
  tape : W'.tape = W.tape
  output : W'.output = W.output
  size : W.heap.size ≤ W'.heap.size
  block : ∀ k, k < W.heap.size → ¬ Z k → W'.heap[k]? = W.heap[k]?
theorem lt_of_obj {W : World} {k : Nat} {o : Obj} (h : W.heap[k]? = some o) : k < W.heap.size := (Array.getElem?_eq_some_iff.1 h).1
namespace Keeps
theorem refl (Z : Nat → Prop) (W : World) : Keeps Z W W := ⟨rfl, rfl, rfl, Nat.le_refl _, fun _ _ _ => rfl⟩
theorem mono {Z Z' : Nat → Prop} {W W' : World} (h : Keeps Z W W') (hz : ∀ k, k < W.heap.size → Z k → Z' k) : Keeps Z' W W' :=
  ⟨h.os, h.tape, h.output, h.size, fun k hk hn => h.block k hk (fun z => hn (hz k hk z))⟩
theorem trans {Z Z' : Nat → Prop} {A B C : World} (h : Keeps Z A B) (k : Keeps Z' B C) (hz : ∀ i, i < A.heap.size → Z' i → Z i) : Keeps Z A C :=
  ⟨k.os.trans h.os, k.tape.trans h.tape, k.output.trans h.output, Nat.le_trans h.size k.size,
    fun i hi hn => (k.block i (Nat.lt_of_lt_of_le hi h.size) (fun z => hn (hz i hi z))).trans (h.block i hi hn)⟩
theorem of_below {B : Nat} {Z : Nat → Prop} {W W' : World} (h : Below B W W') (hz : ∀ k, k < W.heap.size → B ≤ k → Z k) : Keeps Z W W' :=
  ⟨h.os, h.tape, h.output, h.size, fun k hk hn => h.block k (Nat.lt_of_not_le fun hb => hn (hz k hk hb))⟩
theorem below {B : Nat} {Z : Nat → Prop} {W W' : World} (h : Keeps Z W W') (hB : B ≤ W.heap.size) (hz : ∀ k, Z k → B ≤ k) : Below B W W' :=
  ⟨h.os, h.tape, h.output, h.size, fun k hk => h.block k (Nat.lt_of_lt_of_le hk hB) (fun z => by have := hz k z; omega)⟩
theorem of_grownBy {row : Option Nat} {Z : Nat → Prop} {W W' : World} (h : W.grownBy W' row) (hz : ∀ r, row = some r → Z r) : Keeps Z W W' :=
  ⟨h.os, h.tape, h.output, h.size, fun k hk hn => h.block k hk (fun e => hn (hz k e.symm))⟩
theorem alloc (Z : Nat → Prop) (W : World) (o : Obj) : Keeps Z W (W.alloc o) := of_grownBy (World.grownBy_alloc W o none) (fun _ e => by cases e)
theorem putObj {Z : Nat → Prop} (W : World) (l : Nat) (o : Obj) (h : Z l) : Keeps Z W (W.putObj l o) := of_grownBy (grownBy_putObj' W l o) (fun _ e => by cases e; exact h)
theorem setCell {Z : Nat → Prop} (W : World) (a : Addr) (v : Value) (h : Z a.block) : Keeps Z W (W.setCell a v) :=
  ⟨rfl, rfl, rfl, by show W.heap.size ≤ (W.heap.modify _ _).size; rw [Array.size_modify]; exact Nat.le_refl _, fun k _ hn => Below.heap_setCell W a v k (fun e => hn (by rw [e]; exact h))⟩
theorem obj {Z : Nat → Prop} {W W' : World} (h : Keeps Z W W') {k : Nat} {o : Obj} (ho : W.heap[k]? = some o) (hn : ¬ Z k) : W'.heap[k]? = some o := (h.block k (lt_of_obj ho) hn).trans ho
theorem cell {Z : Nat → Prop} {W W' : World} (h : Keeps Z W W') {a : Addr} {v : Value} (hc : W.cell? a = some v) (hn : ¬ Z a.block) : W'.cell? a = some v :=
  (World.cell?_of_block (h.block a.block (World.block_lt_of_cell? W a hc) hn)).trans hc
end Keeps
/-- a step of whoever owns Z (and may turn X besides): all else lies as it lay; what is owned more is new -/
structure Step (X Z Z' : Nat → Prop) (W W' : World) : Prop where
  keeps : Keeps (fun k => Z k ∨ X k) W W'
  new : ∀ k, Z' k → Z k ∨ W.heap.size ≤ k
  lt : ∀ k, Z' k → k < W'.heap.size
def none' : Nat → Prop := fun _ => False
theorem Step.trans {X Z Z1 Z2 : Nat → Prop} {A B C : World} (h : Step X Z Z1 A B) (k : Step X Z1 Z2 B C) : Step X Z Z2 A C :=
  ⟨h.keeps.trans k.keeps (fun i hi z => z.elim (fun z1 => (h.new i z1).elim .inl (fun h' => by omega)) .inr),
    fun i z => (k.new i z).elim (fun z1 => h.new i z1) (fun h' => .inr (Nat.le_trans h.keeps.size h')), k.lt⟩
theorem Step.wide {X Z Z' : Nat → Prop} {W W' : World} (h : Step none' Z Z' W W') : Step X Z Z' W W' :=
  ⟨h.keeps.mono (fun k _ z => z.elim .inl (fun z => z.elim)), h.new, h.lt⟩
theorem Step.pre {X Z Z' : Nat → Prop} {A B C : World} (h : Keeps X A B) (k : Step X Z Z' B C) (hz : ∀ i, Z i → i < A.heap.size) : Step X Z Z' A C :=
  ⟨(h.mono (fun _ _ x => .inr x)).trans k.keeps (fun _ _ z => z), fun i z => (k.new i z).elim .inl (fun h' => .inr (Nat.le_trans h.size h')), k.lt⟩
theorem Step.post {X Z Z' : Nat → Prop} {A B C : World} (h : Step X Z Z' A B) (k : Keeps X B C) : Step X Z Z' A C :=
  ⟨h.keeps.trans k (fun _ _ x => .inr x), h.new, fun i z => Nat.lt_of_lt_of_le (h.lt i z) k.size⟩
theorem Step.same {X Z : Nat → Prop} {W W' : World} (h : Keeps (fun k => Z k ∨ X k) W W') (hz : ∀ k, Z k → k < W.heap.size) : Step X Z Z W W' :=
  ⟨h, fun _ z => .inl z, fun k z => Nat.lt_of_lt_of_le (hz k z) h.size⟩
/-- J outlives whatever is done to blocks from B on that it does not own -/
def AbidesZ {α : Type} (B : Nat) (J : α → World → (Nat → Prop) → Prop) : Prop :=
  ∀ s W W' Y Z, J s W Z → Keeps Y W W' → (∀ k, Y k → ¬ Z k ∧ B ≤ k) → J s W' Z
variable {P : Program}
/-- an iterator's contract: it hands 'full', one by one, to whatever loop; it reads the blocks Rb, of which it knows Rd -/
def SeqZ {α : Type} (P : Program) (gf : FuncId) (lb : Array Value) (encs : α → Array Value) (full : List α) (Rd : World → Prop) (Rb : Nat → Prop) : Prop :=
  ∀ (l : Nat) (J Jx : List α → World → (Nat → Prop) → Prop) (W : World) (Z : Nat → Prop),
    Rd W → l < W.heap.size → (∀ k, Rb k → k < W.heap.size ∧ ¬ Z k ∧ k ≠ l) → (∀ k, Z k → k < W.heap.size) →
    AbidesZ W.heap.size J → AbidesZ W.heap.size Jx →
    (∀ m pre x A ZZ, J pre A ZZ → (∀ k, ZZ k → k < A.heap.size) → W.heap.size ≤ A.heap.size → (pre ++ [x]) <+: full → YieldAt Fence.wide m P l (encs x) A fun e B =>
      ∃ Z', Step (fun k => k = l) ZZ Z' A B ∧ ((e = .returned (.bool true) ∧ J (pre ++ [x]) B Z') ∨ (e = .returned (.bool false) ∧ Jx (pre ++ [x]) B Z'))) →
    J [] W Z →
    Calls P gf (#[.func (.yield l) #[] #[]] ++ lb) W fun e W' => (∃ v, e = .returned v) ∧ ∃ Z', Step (fun k => k = l) Z Z' W W' ∧ (J full W' Z' ∨ ∃ pre, pre <+: full ∧ Jx pre W' Z')
/-- how the body of a round may be left -/
def postZ {α : Type} (I : List α → World → (Nat → Prop) → Prop) (Ix : Code → List α → World → (Nat → Prop) → Prop) (xs : List α) (Z : Nat → Prop) (W : World) : Exit → Act → World → Prop
  | .normal, _, W' => ∃ Z', Step none' Z Z' W W' ∧ I xs W' Z'
  | .ret, _, W' => ∃ Z', Step none' Z Z' W W' ∧ Ix .ret xs W' Z'
  | .exit id, _, W' => ∃ Z', Step none' Z Z' W W' ∧ Ix (.exit id) xs W' Z'
  | .goto t, _, W' => ∃ Z', Step none' Z Z' W W' ∧ Ix (.goto t) xs W' Z'
  | .panic _, _, _ => False
  | .outgrown, _, _ => False
/-- a loop's record -/
def lrec (fn : FuncId) (tm : Array Value) (ps : Array Tmp) (assign body : Code) (D : Nat) (st : LoopState) (pe : Option Code) : Loop := { state := st, pending := pe, fn, tmps := tm, params := ps, assign, body, defers := D }
/-- one round, as the caller walks it -/
def RoundZ {α : Type} (P : Program) (n l : Nat) (full : List α) (encs : α → Array Value) (tm : Array Value) (ps : Array Tmp) (assign body : Code) (B : Nat) (I : List α → World → (Nat → Prop) → Prop) (Ix : Code → List α → World → (Nat → Prop) → Prop) : Prop :=
  ∀ pre x A ZZ, l < A.heap.size → ¬ ZZ l → (∃ r, A.heap[l]? = some (.loop r)) → I pre A ZZ → (∀ k, ZZ k → k < A.heap.size) → B ≤ l → (pre ++ [x]) <+: full →
    assign.wpIn (Fence.wide.inRound l) n P (Exit.then (fun a₁ A1 => Keeps none' A A1 ∧ ∀ A2, Keeps (fun k => k = l) A1 A2 → (∃ r, A2.heap[l]? = some (.loop r)) → I pre A2 ZZ →
      body.wpIn (Fence.wide.inRound l) n P (postZ I Ix (pre ++ [x]) ZZ A2) a₁ A2) (fun _ _ _ => False))
      { tmps := (ps.zip (encs x)).foldl (fun t (p, v) => t.setIfInBounds p v) tm, defers := [] } A
theorem core {α : Type} {n : Nat} {ps : Array Tmp} {assign body : Code} {tm : Array Value} {gf : FuncId} {lb : Array Value} {encs : α → Array Value} {full : List α} {Rd : World → Prop} {Rb : Nat → Prop}
    (hseq : SeqZ P gf lb encs full Rd Rb) (hps : ∀ x, (encs x).size = ps.size) (I : List α → World → (Nat → Prop) → Prop) (Ix : Code → List α → World → (Nat → Prop) → Prop) (W : World) (Z : Nat → Prop) (l b : Nat) (fn : FuncId) (D : Nat)
    (hl : W.heap[l]? = some (.loop (lrec fn tm ps assign body D .ready none))) (hbl : b ≤ l) (hZ : ∀ k, Z k → k < W.heap.size) (hZl : ¬ Z l) (hRd : Rd W) (hRb : ∀ k, Rb k → k < W.heap.size ∧ ¬ Z k ∧ k ≠ l)
    (hI : AbidesZ b I) (hIx : ∀ c, AbidesZ b (Ix c)) (hround : RoundZ P n l full encs tm ps assign body b I Ix) (h0 : I [] W Z) :
    Calls P gf (#[.func (.yield l) #[] #[]] ++ lb) W fun e W2 => (∃ v, e = .returned v) ∧ ∃ Z', Step (fun k => k = l) Z Z' W W2 ∧ ((I full W2 Z' ∧ W2.heap[l]? = some (.loop (lrec fn tm ps assign body D .ready none))) ∨ ∃ c pre, pre <+: full ∧ Ix c pre W2 Z' ∧ W2.heap[l]? = some (.loop (lrec fn tm ps assign body D .done (some c)))) := by
  have hlt := lt_of_obj hl
  refine (hseq l (fun pre A ZZ => I pre A ZZ ∧ A.heap[l]? = some (.loop (lrec fn tm ps assign body D .ready none)) ∧ ¬ ZZ l)
    (fun pre A ZZ => ∃ c, Ix c pre A ZZ ∧ A.heap[l]? = some (.loop (lrec fn tm ps assign body D .done (some c))) ∧ ¬ ZZ l) W Z hRd hlt hRb hZ ?_ ?_ ?_ ⟨h0, hl, hZl⟩).mono ?_
  · rintro pre A B Y ZZ ⟨hi, hr, hz⟩ hk hy
    exact ⟨hI _ _ _ Y _ hi hk (fun k y => ⟨(hy k y).1, by have := (hy k y).2; omega⟩), hk.obj hr (fun y => by have := (hy l y).2; omega), hz⟩
  · rintro pre A B Y ZZ ⟨c, hi, hr, hz⟩ hk hy
    exact ⟨c, hIx c _ _ _ Y _ hi hk (fun k y => ⟨(hy k y).1, by have := (hy k y).2; omega⟩), hk.obj hr (fun y => by have := (hy l y).2; omega), hz⟩
  · rintro m pre x A ZZ ⟨hi, hr, hz⟩ hzz hsz hpre
    have hlA := lt_of_obj hr
    have hy := run_yield (P := P) (args := encs x) hr (hps x)
    suffices hh : RoundIn Fence.wide n P l _ _ _ _ A _ from ⟨_, _, _, _, hy, ⟨hh.1, fun c cs _ => hh.2 c cs (room_wide _)⟩⟩
    refine roundIn_of_wpIn trivial ?_
    refine wpIn_mono (hround pre x A ZZ hlA hz ⟨_, hr⟩ hi hzz hbl hpre) ?_
    rintro e a1 A1 hp
    cases e with
    | normal =>
      obtain ⟨hk1, hbody⟩ := hp
      have hr1 := hk1.obj hr (fun h => h)
      have hl1 := lt_of_obj hr1
      refine ⟨_, run_beginRound hr1 rfl, ?_⟩
      have hr2 : (A1.putObj l (.loop { lrec fn tm ps assign body D .ready none with state := .busy })).heap[l]? = some (.loop { lrec fn tm ps assign body D .ready none with state := .busy }) := World.putObj_heap_same hl1
      have hk2 : Keeps (fun k => k = l) A1 (A1.putObj l (.loop { lrec fn tm ps assign body D .ready none with state := .busy })) := Keeps.putObj _ _ _ rfl
      have hk12 := (hk1.mono (Z' := fun k => k = l) (fun _ _ h => h.elim)).trans hk2 (fun _ _ h => h)
      generalize A1.putObj l (.loop { lrec fn tm ps assign body D .ready none with state := .busy }) = A2 at hr2 hk2 hk12 ⊢
      have hl2 := lt_of_obj hr2
      refine wpIn_mono (hbody A2 hk2 ⟨_, hr2⟩ (hI _ _ _ (fun k => k = l) _ hi hk12 (fun k y => by subst y; exact ⟨hz, hbl⟩))) ?_
      have fin : ∀ (jump : Option Code) (B : World) (Z' : Nat → Prop), Step none' ZZ Z' A2 B →
          (Instr.endRound l jump).run P B = .ok (.bool jump.isNone) (B.putObj l (.loop (lrec fn tm ps assign body D (if jump.isNone then .ready else .done) jump))) ∧
          (B.putObj l (.loop (lrec fn tm ps assign body D (if jump.isNone then .ready else .done) jump))).heap[l]? = some (.loop (lrec fn tm ps assign body D (if jump.isNone then .ready else .done) jump)) ∧
          Step (fun k => k = l) ZZ Z' A (B.putObj l (.loop (lrec fn tm ps assign body D (if jump.isNone then .ready else .done) jump))) ∧ ¬ Z' l ∧ Keeps (fun k => k = l) B (B.putObj l (.loop (lrec fn tm ps assign body D (if jump.isNone then .ready else .done) jump))) := fun jump B Z' hst => by
        have hrB := hst.keeps.obj hr2 (fun h => h.elim hz (fun h => h))
        have hkB : Keeps (fun k => k = l) B (B.putObj l (.loop (lrec fn tm ps assign body D (if jump.isNone then .ready else .done) jump))) := Keeps.putObj _ _ _ rfl
        refine ⟨run_endRound jump hrB, World.putObj_heap_same (lt_of_obj hrB), Step.pre hk12 (Step.post hst.wide hkB) hzz, fun h => ?_, hkB⟩
        exact (hst.new l h).elim hz (fun h' => by omega)
      rintro e a3 B hp
      cases e with
      | normal =>
        obtain ⟨Z', hst, hi'⟩ := hp
        obtain ⟨q1, q2, q3, q4, q5⟩ := fin none B Z' hst
        exact ⟨_, _, q1, Z', q3, .inl ⟨rfl, hI _ _ _ _ _ hi' q5 (fun k y => by subst y; exact ⟨q4, hbl⟩), q2, q4⟩⟩
      | ret =>
        obtain ⟨Z', hst, hi'⟩ := hp
        obtain ⟨q1, q2, q3, q4, q5⟩ := fin (some .ret) B Z' hst
        exact ⟨_, _, q1, Z', q3, .inr ⟨rfl, _, hIx _ _ _ _ _ _ hi' q5 (fun k y => by subst y; exact ⟨q4, hbl⟩), q2, q4⟩⟩
      | exit id =>
        obtain ⟨Z', hst, hi'⟩ := hp
        obtain ⟨q1, q2, q3, q4, q5⟩ := fin (some (.exit id)) B Z' hst
        exact ⟨_, _, q1, Z', q3, .inr ⟨rfl, _, hIx _ _ _ _ _ _ hi' q5 (fun k y => by subst y; exact ⟨q4, hbl⟩), q2, q4⟩⟩
      | goto t =>
        obtain ⟨Z', hst, hi'⟩ := hp
        obtain ⟨q1, q2, q3, q4, q5⟩ := fin (some (.goto t)) B Z' hst
        exact ⟨_, _, q1, Z', q3, .inr ⟨rfl, _, hIx _ _ _ _ _ _ hi' q5 (fun k y => by subst y; exact ⟨q4, hbl⟩), q2, q4⟩⟩
      | panic ch => exact hp.elim
      | outgrown => exact hp.elim
    | exit id => exact hp.elim
    | goto t => exact hp.elim
    | ret => exact hp.elim
    | panic ch => exact hp.elim
    | outgrown => exact hp.elim
  · rintro e W2 ⟨hv, Z', hst, (⟨hi, hr, _⟩ | ⟨pre, hp, c, hi, hr, _⟩)⟩
    · exact ⟨hv, Z', hst, .inl ⟨hi, hr⟩⟩
    · exact ⟨hv, Z', hst, .inr ⟨c, pre, hp, hi, hr⟩⟩
/-- 'for .. := range g { .. }' of a function's own -/
theorem range_out {α : Type} {n : Nat} {g : Operand} {ps : Array Tmp} {assign body : Code} {Q : Exit → Act → World → Prop} {a : Act} {w : World} {gf : FuncId} {lb : Array Value} (hg : a.eval g = .func (.func gf) #[] lb)
    (eg : ∀ args w, (callFunc gf args).run P w = .ok (.enter gf args) w) {encs : α → Array Value} {full : List α} {Rd : World → Prop} {Rb : Nat → Prop}
    (hseq : SeqZ P gf lb encs full Rd Rb) (hps : ∀ x, (encs x).size = ps.size) (I : List α → World → (Nat → Prop) → Prop) (Ix : Code → List α → World → (Nat → Prop) → Prop) (Z : Nat → Prop)
    (hZ : ∀ k, Z k → k < w.heap.size) (hRd : ∀ W, Keeps none' w W → Rd W) (hRb : ∀ k, Rb k → k < w.heap.size ∧ ¬ Z k)
    (hI : AbidesZ w.heap.size I) (hIx : ∀ c, AbidesZ w.heap.size (Ix c)) (hround : ∀ l, RoundZ P n l full encs a.tmps ps assign body w.heap.size I Ix) (h0 : I [] w Z)
    (hdone : ∀ D W Z', w.heap.size ≤ D → ¬ Z' D → Step none' Z Z' w W → I full W Z' → W.heap[D]? = some (.deferred (some [])) → Q .normal { a with defers := { target := .collected D, args := #[] } :: a.defers } W)
    (hstop : ∀ D c pre W Z', w.heap.size ≤ D → ¬ Z' D → Step none' Z Z' w W → pre <+: full → Ix c pre W Z' → W.heap[D]? = some (.deferred (some [])) → c.wpIn Fence.wide n P Q { a with defers := { target := .collected D, args := #[] } :: a.defers } W) :
    (Code.rangeFunc g ps assign body).wpIn Fence.wide n P Q a w := by
  refine wpIn_rangeFunc ?_
  intro fn _
  obtain ⟨W1, hW1⟩ : ∃ W1, (w.alloc (.deferred (some []))).alloc (.loop (lrec fn a.tmps ps assign body w.heap.size .ready none)) = W1 := ⟨_, rfl⟩
  have hL : W1.heap[w.heap.size + 1]? = some (.loop (lrec fn a.tmps ps assign body w.heap.size .ready none)) := by
    rw [← hW1]; have := World.alloc_heap_new (w.alloc (.deferred (some []))) (.loop (lrec fn a.tmps ps assign body w.heap.size .ready none)); rwa [World.size_alloc] at this
  have hD : W1.heap[w.heap.size]? = some (.deferred (some [])) := by
    rw [← hW1]; exact (Below.heap_alloc _ _ _ (by simp)).trans (World.alloc_heap_new w _)
  have hk : Keeps none' w W1 := by rw [← hW1]; exact (Keeps.alloc _ _ _).trans (Keeps.alloc _ _ _) (fun _ _ h => h)
  have hs1 : W1.heap.size = w.heap.size + 2 := by rw [← hW1]; simp
  refine ⟨w.heap.size + 1, [{ target := .collected w.heap.size, args := #[] }], W1, { target := .fn (.func gf) lb, args := #[.func (.yield (w.heap.size + 1)) #[] #[]] }, W1, gf,
    #[.func (.yield (w.heap.size + 1)) #[] #[]] ++ lb, W1, ?_, ?_, fun _ _ => trivial, ?_, (fun h => by cases h), ?_⟩
  · rw [← hW1]; exact run_enterLoop_outer _ _ _ _ _
  · simp only [resolve, hg]
    simp [go_sem]
  · simp [invoke, go_sem, eg]
  · refine callsIn_wide.2 ((core hseq hps (fun pre A ZZ => I pre A ZZ ∧ A.heap[w.heap.size]? = some (.deferred (some [])) ∧ ¬ ZZ w.heap.size) (fun c pre A ZZ => Ix c pre A ZZ ∧ A.heap[w.heap.size]? = some (.deferred (some [])) ∧ ¬ ZZ w.heap.size)
      W1 Z (w.heap.size + 1) (w.heap.size + 1) fn w.heap.size hL (Nat.le_refl _) (fun k z => by have := hZ k z; omega) (fun z => by have := hZ _ z; omega) (hRd _ hk) (fun k r => ⟨by have := (hRb k r).1; omega, (hRb k r).2, by have := (hRb k r).1; omega⟩)
      ?_ ?_ (n := n) ?_ ⟨hI _ _ _ none' _ h0 hk (fun _ h => h.elim), hD, fun z => by have := hZ _ z; omega⟩).mono ?_)
    · rintro pre A B Y ZZ ⟨hi, hr, hz⟩ hk hy
      exact ⟨hI _ _ _ Y _ hi hk (fun k y => ⟨(hy k y).1, by have := (hy k y).2; omega⟩), hk.obj hr (fun y => by have := (hy _ y).2; omega), hz⟩
    · rintro c pre A B Y ZZ ⟨hi, hr, hz⟩ hk hy
      exact ⟨hIx c _ _ _ Y _ hi hk (fun k y => ⟨(hy k y).1, by have := (hy k y).2; omega⟩), hk.obj hr (fun y => by have := (hy _ y).2; omega), hz⟩
    · rintro pre x A ZZ h1 h2 h3 ⟨hi, hr, hz⟩ h5 h6 h7
      refine wpIn_mono (hround _ pre x A ZZ h1 h2 h3 hi h5 (by omega) h7) ?_
      rintro e a1 A1 hp
      cases e with
      | normal =>
        refine ⟨hp.1, fun A2 k2 r2 i2 => wpIn_mono (hp.2 A2 k2 r2 i2.1) ?_⟩
        rintro e a3 B hq
        have hb : ∀ Z', Step none' ZZ Z' A2 B → B.heap[w.heap.size]? = some (.deferred (some [])) ∧ ¬ Z' w.heap.size := fun Z' st =>
          ⟨st.keeps.obj i2.2.1 (fun h => h.elim hz (fun h => h)), fun h => (st.new _ h).elim hz (fun h' => by have := lt_of_obj i2.2.1; omega)⟩
        cases e with
        | normal => obtain ⟨Z', st, hi'⟩ := hq; exact ⟨Z', st, hi', hb Z' st⟩
        | ret => obtain ⟨Z', st, hi'⟩ := hq; exact ⟨Z', st, hi', hb Z' st⟩
        | exit id => obtain ⟨Z', st, hi'⟩ := hq; exact ⟨Z', st, hi', hb Z' st⟩
        | goto t => obtain ⟨Z', st, hi'⟩ := hq; exact ⟨Z', st, hi', hb Z' st⟩
        | panic ch => exact hq.elim
        | outgrown => exact hq.elim
      | exit id => exact hp.elim
      | goto t => exact hp.elim
      | ret => exact hp.elim
      | panic ch => exact hp.elim
      | outgrown => exact hp.elim
    · have fin : ∀ (W2 : World) (o : Obj) (Z' : Nat → Prop), Step (fun k => k = w.heap.size + 1) Z Z' W1 W2 → Step none' Z Z' w (W2.putObj (w.heap.size + 1) o) ∧ ¬ Z' (w.heap.size + 1) := fun W2 o Z' st =>
        ⟨⟨(hk.mono (fun _ _ h => h.elim)).trans (st.keeps.trans (Keeps.putObj (Z := fun k => k = w.heap.size + 1) _ _ _ rfl) (fun _ _ h => .inr h)) (fun i hi h => h.elim .inl (fun h' => by omega)),
          fun k z => (st.new k z).elim .inl (fun h' => .inr (by omega)), fun k z => Nat.lt_of_lt_of_le (st.lt k z) (Keeps.putObj (Z := fun k => k = w.heap.size + 1) _ _ _ rfl).size⟩,
          fun h => (st.new _ h).elim (fun z => by have := hZ _ z; omega) (fun h' => by omega)⟩
      rintro e W2 ⟨⟨v, rfl⟩, Z', st, (⟨⟨hi, hr, hz⟩, hl⟩ | ⟨c, pre, hp, ⟨hi, hr, hz⟩, hl⟩)⟩
      · refine ⟨none, _, run_endLoop hl (by simp [lrec]), ?_⟩
        obtain ⟨s1, s2⟩ := fin W2 (.loop { lrec fn a.tmps ps assign body w.heap.size .ready none with state := .exhausted }) Z' st
        exact hdone _ _ Z' (Nat.le_refl _) hz s1 (hI _ _ _ (fun k => k = w.heap.size + 1) _ hi (Keeps.putObj _ _ _ rfl) (fun k y => by subst y; exact ⟨s2, by omega⟩)) ((World.putObj_heap_other (by omega)).trans hr)
      · refine ⟨some c, _, run_endLoop hl (by simp [lrec]), ?_⟩
        obtain ⟨s1, s2⟩ := fin W2 (.loop { lrec fn a.tmps ps assign body w.heap.size .done (some c) with state := .exhausted }) Z' st
        exact hstop _ c pre _ Z' (Nat.le_refl _) hz s1 hp (hIx c _ _ _ (fun k => k = w.heap.size + 1) _ hi (Keeps.putObj _ _ _ rfl) (fun k y => by subst y; exact ⟨s2, by omega⟩)) ((World.putObj_heap_other (by omega)).trans hr)
end Go.Proofs.YtbkimhbpcmbflaaDoor.Z
set_option linter.unusedVariables false
set_option linter.unusedSimpArgs false
namespace Go.Proofs.YtbkimhbpcmbflaaDoor.C
open Go Go.RowKit Go.Shelf Go.Proofs.YtbkimhbpcmbflaaDoor.M Go.Proofs.YtbkimhbpcmbflaaDoor.Z
attribute [local go_sem] Oper.semAt_some
theorem Keeps.iterAt (W : World) (k : Nat) (s : ByteArray) (p : Nat) : Keeps (fun i => i = k) W (W.iterAt k s p) :=
  ⟨rfl, rfl, rfl, Nat.le_of_eq (Lib.iterAt_size W k s p).symm, fun i _ hn => Lib.iterAt_other W k i s p hn⟩
theorem Step.fresh {X Z Z' Y : Nat → Prop} {A B C : World} (h : Step X Z Z' A B) (k : Keeps Y B C) (hy : ∀ i, Y i → A.heap.size ≤ i) : Step X Z Z' A C :=
  ⟨h.keeps.trans k (fun i hi y => by have := hy i y; omega), h.new, fun i z => Nat.lt_of_lt_of_le (h.lt i z) k.size⟩
theorem Step.none {X Z : Nat → Prop} {W : World} (hz : ∀ k, Z k → k < W.heap.size) : Step X Z Z W W := Step.same (Keeps.refl _ _) hz
/-- what is handed of a unit: where it begins, and its number -/
def encA (s : ByteArray) (t : List UInt8) : Array Value := #[.int .i64 ((s.size - t.length : Nat) : Int), .int .i32 (dc t : Nat)]
def RdS (b : Nat) (s : ByteArray) (W : World) : Prop := W.cell? ⟨b, 0, none⟩ = some (.string s)
set_option maxRecDepth 100000 in
set_option maxHeartbeats 2000000 in
theorem all_seq (b : Nat) (s : ByteArray) (hs : s.size ≤ 140737488351232) : SeqZ Tryd.prog 91 #[.pointer (some ⟨b, 0, none⟩)] (encA s) (sfx (bl s)) (RdS b s) (fun k => k = b) := by
  intro l J Jx W Z hrd hl hrb hz hJ hJx hY h0
  refine (callsIn_wide (n := 9)).1 ?_
  refine callsIn_of_wp Tryd.func91 rfl trivial ?_
  simp only [Tryd.ntmps91, List.size_toArray, List.length_cons, List.length_nil, Nat.reduceAdd, Nat.reduceSub, Array.replicate_succ, Array.replicate_zero, List.push_toArray, List.append_toArray, List.nil_append, List.cons_append]
  have hcell : W.cell? ⟨b, 0, none⟩ = some (.string s) := hrd
  have hbl := bl_len s
  have hiW : (W.iter s 0).heap[W.heap.size]? = some (.stringIter s 0) := by simpa using World.iter_heap W s 0
  have hk0 : Keeps none' W (W.iter s 0) := Keeps.alloc _ W (.stringIter s 0)
  have hJ0 : J [] (W.iter s 0) Z := hJ _ _ _ none' _ h0 hk0 (fun _ h => h.elim)
  have hb1 := hrb b rfl
  clear hrd hrb h0
  gi_wp2
  gi_loopw [] (fun wr => ∃ (pos : Nat) (pre : List (List UInt8)) (ZZ : Nat → Prop), Hid (sfx (bl s) = pre ++ sfx ((bl s).drop pos)) ∧ pos ≤ s.size ∧ Hid (wr.heap[W.heap.size]? = some (.stringIter s pos)) ∧ ¬ ZZ W.heap.size ∧ Step (fun k => k = l) Z ZZ W wr ∧ J pre wr ZZ)
    (fun wr => s.size - wr.iterPos W.heap.size)
  case atStart =>
    exact ⟨0, [], Z, by simp [Hid], Nat.zero_le _, hiW, fun z => by have := hz _ z; omega, Step.same (hk0.mono (fun _ _ h => h.elim)) hz, hJ0⟩
  case round =>
    obtain ⟨pos, pre, ZZ, hpre, hps, hit, hzi, hst, hj⟩ := hrel
    have hzw : W.heap.size < wr.heap.size := lt_of_obj hit.out
    by_cases hp : pos < s.size
    · obtain ⟨t, ht⟩ : ∃ t, (bl s).drop pos = t := ⟨_, rfl⟩
      have hne : t ≠ [] := by rw [← ht]; exact bl_nonempty hp
      have hd : Utf8.decode s pos = (dc t, dw t) := by rw [← ht]; exact (Lib.decodeL_drop s pos).symm
      have hnx : ∀ ty, (Instr.next (.pointer (some ⟨W.heap.size, 0, none⟩)) true ty).run Tryd.prog wr = .ok (.tuple #[.bool true, .int .i64 pos, .int .i32 (dc t : Nat)]) (wr.iterAt W.heap.size s (pos + dw t)) := fun ty => by
        have := Lib.run_next_any_at (P := Tryd.prog) wr W.heap.size s pos ty hit.out hp
        rw [hd] at this
        exact this
      have hw1 := dw_pos hne
      have hw2 := dw_len hne
      have htl : t.length = s.size - pos := by rw [← ht, List.length_drop, hbl]
      have hpl : pos + dw t ≤ s.size := by omega
      have hm : s.size - (pos + dw t) < s.size - pos := by omega
      have hsx : sfx ((bl s).drop pos) = t :: sfx ((bl s).drop (pos + dw t)) := by rw [ht, sfx_cons hne, ← List.drop_drop, ht]
      have hpre2 : Hid (sfx (bl s) = (pre ++ [t]) ++ sfx ((bl s).drop (pos + dw t))) := by
        show sfx (bl s) = _
        rw [hpre.out, hsx]; simp
      have hk1 := Keeps.iterAt wr W.heap.size s (pos + dw t)
      have hit2 := Lib.iterAt_heap wr W.heap.size s pos (pos + dw t) hit.out
      have hst1 := Step.fresh hst hk1 (fun i y => by subst y; exact Nat.le_refl _)
      have hj1 := hJ _ _ _ _ _ hj hk1 (fun i y => by subst y; exact ⟨hzi, Nat.le_refl _⟩)
      obtain ⟨W1, hW1⟩ : ∃ W1, wr.iterAt W.heap.size s (pos + dw t) = W1 := ⟨_, rfl⟩
      rw [hW1] at hk1 hit2 hst1 hj1 hnx
      obtain ⟨fn, tmps, assign, body, hy, hR⟩ := hY (9 - 1) pre t W1 ZZ hj1 hst1.lt hst1.keeps.size ⟨_, hpre2.out.symm⟩
      have hpos : s.size - t.length = pos := by omega
      dsimp only [encA] at hy hR
      rw [hpos] at hy
      have Hhit := hit
      have Hit2 := Lib.hid hit2
      have Hm := Lib.hid hm
      clear hd ht hne hbl hsx hW1 hit2 hm htl hpos
      gi_wp2
      refine hR.mono ?_
      rintro e W2 ⟨Z2, hs2, (⟨rfl, hj2⟩ | ⟨rfl, hjx2⟩)⟩
      · have hit3 : W2.heap[W.heap.size]? = some (.stringIter s (pos + dw t)) := hs2.keeps.obj Hit2.out (fun h => h.elim hzi (fun h => by omega))
        have hz3 : ¬ Z2 W.heap.size := fun h => (hs2.new _ h).elim hzi (fun h' => by have := lt_of_obj Hit2.out; omega)
        have Hit3 := Lib.hid hit3
        clear hit3
        gi_wp2
        go_roundw
        case rel => exact ⟨pos + dw t, pre ++ [t], Z2, hpre2, hpl, Hit3, hz3, hst1.trans hs2, hj2⟩
        case measure =>
          simp only [World.iterPos, Hit3.out, Hhit.out]
          exact Hm.out
      · gi_wp2
        refine bodyPost_ret (results_none rfl _ _ _) rfl ?_
        exact ⟨⟨_, rfl⟩, Z2, hst1.trans hs2, .inr ⟨pre ++ [t], ⟨_, hpre2.out.symm⟩, hjx2⟩⟩
    · have hnx : ∀ ty, (Instr.next (.pointer (some ⟨W.heap.size, 0, none⟩)) true ty).run Tryd.prog wr = _ := fun ty => Lib.run_next_end_at wr W.heap.size s pos ty hit.out hp
      have hpe : sfx (bl s) = pre := by have := hpre.out; rw [List.drop_eq_nil_of_le (by omega), sfx_nil, List.append_nil] at this; exact this
      have Hpe := Lib.hid hpe
      clear hpe hbl
      gi_wp2
      go_end0
      exact ⟨⟨_, rfl⟩, ZZ, hst, .inl (by rw [Hpe.out]; exact hj)⟩
end Go.Proofs.YtbkimhbpcmbflaaDoor.C
set_option linter.unusedVariables false
set_option linter.unusedSimpArgs false
namespace Go.Proofs.YtbkimhbpcmbflaaDoor.C
open Go Go.RowKit Go.Proofs.YtbkimhbpcmbflaaDoor.M Go.Proofs.YtbkimhbpcmbflaaDoor.E
theorem below_drewN {B : Nat} {a w : World} (h : Below B a w) (q : Nat) : Below B a (w.drewN q) := below_drewNv h q
theorem byte_bt {s : ByteArray} {p : Nat} (h : p < s.size) : (s[p]'h).toNat = bt (bl s) p := by
  rw [byte_at h]; show bt ((bl s).drop p) 0 = _; rw [bt_drop, Nat.add_zero]
set_option maxHeartbeats 4000000 in
set_option maxRecDepth 1000000 in
theorem fullrune_any (s : ByteArray) (w : World) (hT : Lib.Utf8Tabs 0 1 w) (hs : s.size ≤ 140737488351232) :
    Calls Tryd.prog 85 #[.string s] w fun e w' => e = .returned (.bool (fullP (bl s))) ∧ Below w.heap.size w w' := by
  have hbl := bl_len s
  by_cases h0 : s.size = 0
  · have e : bl s = [] := List.eq_nil_of_length_eq_zero (by omega)
    have ef : fullP (bl s) = false := by rw [e]; rfl
    rw [ef]
    have h0b : ((s.size : Int) == 0) = true := by rw [beq_iff_eq]; omega
    clear e ef hbl
    go_enter Tryd.func85, Tryd.ntmps85
    go_wp2
    go_ret
    exact ⟨rfl, Below.refl _ _⟩
  · have hne : bl s ≠ [] := by intro e; rw [e] at hbl; simp at hbl; omega
    have hp0 : 0 < s.size := by omega
    have h0z : (0 : Int) < (s.size : Int) := by omega
    have h0b : ((s.size : Int) == 0) = false := beq_eq_false_iff_ne.2 (by omega)
    have hb0 := byte_bt hp0
    rw [full_N hne, hbl]
    have hX : Lib.firstT (bt (bl s) 0) < 256 := by rcases Lib.firstT_cases (bt (bl s) 0) with h | h | h | h | h | h | h | h | h <;> omega
    have hc0 := hT.1 _ (bt_lt (bl s) 0)
    rw [← hb0] at hc0 hX ⊢
    obtain ⟨x0, hx0⟩ : ∃ x0, s[0]'hp0 = x0 := ⟨_, rfl⟩
    rw [hx0] at hc0 hX ⊢
    obtain ⟨X, hXX⟩ : ∃ X, Lib.firstT x0.toNat = X := ⟨_, rfl⟩
    rw [hXX] at hc0 hX ⊢
    have h7 := and7 ⟨X, hX⟩
    simp only at h7
    have ha0 : w.cell? ⟨1, X / 16 * 2, none⟩ = some (.int .u8 (Lib.accLo (X / 16))) := by rw [Nat.mul_comm]; exact (hT.2 (X / 16) (by omega)).1
    have ha1 : w.cell? ⟨1, X / 16 * 2 + 1, none⟩ = some (.int .u8 (Lib.accHi (X / 16))) := by rw [Nat.mul_comm]; exact (hT.2 (X / 16) (by omega)).2
    unfold fullN
    obtain ⟨LO, hLO⟩ : ∃ LO, Lib.accLo (X / 16) = LO := ⟨_, rfl⟩
    obtain ⟨HI, hHI⟩ : ∃ HI, Lib.accHi (X / 16) = HI := ⟨_, rfl⟩
    rw [hLO] at ha0 ⊢
    rw [hHI] at ha1 ⊢
    have hb1 : 1 < s.size → (s.get! 1).toNat = bt (bl s) 1 := fun h => by rw [← byte_bt h, Utf8W.get!_of_lt s 1 h]
    have hb2 : 2 < s.size → (s.get! 2).toNat = bt (bl s) 2 := fun h => by rw [← byte_bt h, Utf8W.get!_of_lt s 2 h]
    have Hx0 := Lib.hid hx0
    have hx0lt : x0.toNat < 256 := x0.toNat_lt
    have hx0z : (x0.toNat : Int) < 256 := by omega
    clear hT hne hbl hLO hHI hXX hb0
    by_cases q0 : X % 8 ≤ s.size
    · have q0z : ((X : Int) % 8) ≤ (s.size : Int) := by omega
      rw [decide_eq_true q0]
      clear hb1 hb2 ha0 ha1
      go_enter Tryd.func85, Tryd.ntmps85
      go_wp2
      go_ret
      exact ⟨rfl, Below.refl _ _⟩
    · have q0z : ((s.size : Int)) < ((X : Int) % 8) := by omega
      rw [decide_eq_false q0]
      have q1z : (X / 16 : Int) < 16 := by omega
      by_cases c1 : 1 < s.size
      · have c1z : (1 : Int) < s.size := by omega
        have e1 := hb1 c1
        obtain ⟨x1, hx1⟩ : ∃ x1, s.get! 1 = x1 := ⟨_, rfl⟩
        have hs1 : s[1]'c1 = x1 := by rw [← hx1]; exact (Utf8W.get!_of_lt s 1 c1).symm
        rw [hx1] at e1
        rw [← e1]
        clear hx1 e1 hb1
        by_cases d1 : x1.toNat < LO
        · have d1z : (x1.toNat : Int) < LO := by omega
          rw [decide_eq_true c1, decide_eq_true d1]
          clear hb2
          go_enter Tryd.func85, Tryd.ntmps85
          go_wp2_with fail
          go_quiet (fail)
          go_wp2
          go_ret
          exact ⟨rfl, below_drewN ((Below.refl _ _).alloc (Nat.le_refl _) _) _⟩
        · have d1z : (LO : Int) ≤ x1.toNat := by omega
          have d1b : decide ((x1.toNat : Int) < LO) = false := by simp; omega
          rw [decide_eq_false d1]
          by_cases d2 : HI < x1.toNat
          · have d2z : (HI : Int) < x1.toNat := by omega
            rw [decide_eq_true c1, decide_eq_true d2]
            clear hb2
            go_enter Tryd.func85, Tryd.ntmps85
            go_wp2_with fail
            go_quiet (fail)
            go_wp2
            go_ret
            exact ⟨by first | rfl | simp, below_drewN ((Below.refl _ _).alloc (Nat.le_refl _) _) _⟩
          · have d2z : (x1.toNat : Int) ≤ HI := by omega
            have d2b : decide ((HI : Int) < x1.toNat) = false := by simp; omega
            rw [decide_eq_true c1, decide_eq_false d2]
            by_cases c2 : 2 < s.size
            · have c2z : (2 : Int) < s.size := by omega
              have e2 := hb2 c2
              obtain ⟨x2, hx2⟩ : ∃ x2, s.get! 2 = x2 := ⟨_, rfl⟩
              have hs2 : s[2]'c2 = x2 := by rw [← hx2]; exact (Utf8W.get!_of_lt s 2 c2).symm
              rw [hx2] at e2
              rw [← e2, decide_eq_true c2]
              clear hx2 e2 hb2
              by_cases d3 : x2.toNat < 128
              · have d3z : (x2.toNat : Int) < 128 := by omega
                rw [decide_eq_true d3]
                go_enter Tryd.func85, Tryd.ntmps85
                go_wp2_with fail
                go_quiet (fail)
                go_wp2
                go_ret
                exact ⟨by first | rfl | simp, below_drewN ((Below.refl _ _).alloc (Nat.le_refl _) _) _⟩
              · have d3z : (128 : Int) ≤ x2.toNat := by omega
                rw [decide_eq_false d3]
                by_cases d4 : 191 < x2.toNat
                · have d4z : (191 : Int) < x2.toNat := by omega
                  rw [decide_eq_true d4]
                  go_enter Tryd.func85, Tryd.ntmps85
                  go_wp2_with fail
                  go_quiet (fail)
                  go_wp2
                  go_ret
                  exact ⟨by first | rfl | simp, below_drewN ((Below.refl _ _).alloc (Nat.le_refl _) _) _⟩
                · have d4z : (x2.toNat : Int) ≤ 191 := by omega
                  rw [decide_eq_false d4]
                  go_enter Tryd.func85, Tryd.ntmps85
                  go_wp2_with fail
                  go_quiet (fail)
                  go_wp2
                  go_ret
                  exact ⟨by first | rfl | simp, below_drewN ((Below.refl _ _).alloc (Nat.le_refl _) _) _⟩
            · have c2z : (s.size : Int) ≤ 2 := by omega
              have c2b : decide ((2 : Int) < s.size) = false := by simp; omega
              rw [decide_eq_false c2]
              clear hb2
              go_enter Tryd.func85, Tryd.ntmps85
              go_wp2_with fail
              go_quiet (fail)
              go_wp2
              go_ret
              exact ⟨by first | rfl | simp, below_drewN ((Below.refl _ _).alloc (Nat.le_refl _) _) _⟩
      · have c1z : (s.size : Int) ≤ 1 := by omega
        have c1b : decide ((1 : Int) < s.size) = false := by simp; omega
        have c2b : decide ((2 : Int) < s.size) = false := by simp; omega
        have c2 : ¬ 2 < s.size := by omega
        rw [decide_eq_false c1, decide_eq_false c2]
        clear hb1 hb2
        go_enter Tryd.func85, Tryd.ntmps85
        go_wp2_with fail
        go_quiet (fail)
        go_wp2
        go_ret
        exact ⟨by first | rfl | simp, below_drewN ((Below.refl _ _).alloc (Nat.le_refl _) _) _⟩
/-- utf.Full -/
theorem full_any (s : ByteArray) (w : World) (hT : Lib.Utf8Tabs 0 1 w) (hs : s.size ≤ 140737488351232) :
    Calls Tryd.prog 34 #[.string s] w fun e w' => e = .returned (.bool (fullP (bl s))) ∧ Below w.heap.size w w' := by
  have c := fullrune_any s w hT hs
  obtain ⟨r, hr⟩ : ∃ r, fullP (bl s) = r := ⟨_, rfl⟩
  rw [hr] at c ⊢
  clear hr
  go_enter Tryd.func34, Tryd.ntmps34
  go_wp2_with fail
  refine c.mono ?_
  rintro e w1 ⟨rfl, hb⟩
  go_wp2
  go_ret
  exact ⟨rfl, hb⟩
end Go.Proofs.YtbkimhbpcmbflaaDoor.C
set_option linter.unusedVariables false
set_option linter.unusedSimpArgs false
namespace Go.Proofs.YtbkimhbpcmbflaaDoor.C
open Go Go.RowKit Go.Shelf Go.Proofs.YtbkimhbpcmbflaaDoor.M Go.Proofs.YtbkimhbpcmbflaaDoor.Z
attribute [local go_sem] Oper.semAt_some
/-- utf.All: the iterator's value -/
theorem allfn_any (s : ByteArray) (W : World) : Calls Tryd.prog 42 #[.string s] W fun e w' => e = .returned (.func (.func 91) #[] #[.pointer (some ⟨W.heap.size, 0, none⟩)]) ∧ w' = W.alloc (.cells #[.string s] 9) := by
  go_enter Tryd.func42, Tryd.ntmps42
  go_wp2
  go_ret
  exact ⟨rfl, rfl⟩
theorem badfn_any (s : ByteArray) (W : World) : Calls Tryd.prog 39 #[.string s] W fun e w' => e = .returned (.func (.func 87) #[] #[.pointer (some ⟨W.heap.size, 0, none⟩)]) ∧ w' = W.alloc (.cells #[.string s] 9) := by
  go_enter Tryd.func39, Tryd.ntmps39
  go_wp2
  go_ret
  exact ⟨rfl, rfl⟩
/-- what is handed of a piece: where it begins, and how many bytes it has -/
def encB (s : ByteArray) (x : List UInt8 × Nat) : Array Value := #[.int .i64 ((s.size - x.1.length : Nat) : Int), .int .i64 (x.2 : Nat)]
def Tabs (W : World) : Prop := Lib.Utf8Tabs 0 1 W
def tabB (k : Nat) : Prop := k = 0 ∨ k = 1
theorem Tabs.keeps {W W' : World} {Z : Nat → Prop} (h : Tabs W) (hk : Keeps Z W W') (hz : ∀ k, tabB k → ¬ Z k) : Tabs W' :=
  ⟨fun c hc => hk.cell (h.1 c hc) (hz _ (.inl rfl)), fun i hi => ⟨hk.cell (h.2 i hi).1 (hz _ (.inr rfl)), hk.cell (h.2 i hi).2 (hz _ (.inr rfl))⟩⟩
def RdB (b : Nat) (s : ByteArray) (W : World) : Prop := W.cell? ⟨b, 0, none⟩ = some (.string s) ∧ Tabs W
def RbB (b : Nat) (k : Nat) : Prop := k = b ∨ tabB k
theorem cell_new_l (W : World) (v : Value) (t : TypeId) : (W.alloc (.cells #[v] t)).cell? ⟨W.heap.size, 0, none⟩ = some v ∧ (W.alloc (.cells #[v] t)).frozen? ⟨W.heap.size, 0, none⟩ = false :=
  ⟨cell_of_row _ _ _ _ _ _ (heap_alloc_new W (.cells #[v] t)), frozen_cells (heap_alloc_new W (.cells #[v] t)) 0⟩
theorem cell_alloc_l {W : World} {a : Addr} {v : Value} (o : Obj) (h : W.cell? a = some v) : (W.alloc o).cell? a = some v := (Keeps.alloc none' W o).cell h (fun h => h)
theorem frozen_alloc_l {W : World} {a : Addr} {v : Value} (o : Obj) (h : W.cell? a = some v) (hf : W.frozen? a = false) : (W.alloc o).frozen? a = false :=
  (World.frozen?_of_block ((Keeps.alloc none' W o).block a.block (World.block_lt_of_cell? W a h) (fun h => h))).trans hf
theorem Keeps.of_below0 {W W' : World} (h : Below W.heap.size W W') : Keeps none' W W' := Keeps.of_below h (fun k h1 h2 => by omega)
/-- what the loop within Bad knows between two rounds -/
structure BadI (s : ByteArray) (b l : Nat) (W : World) (Z : Nat → Prop) (J : List (List UInt8 × Nat) → World → (Nat → Prop) → Prop) (pre : List (List UInt8)) (r : List UInt8) (e : Nat) (got : List (List UInt8 × Nat)) (Zo : Nat → Prop) (A : World) (ZZ : Nat → Prop) : Prop where
  units : sfx (bl s) = pre ++ sfx r
  at_ : At (bl s) r e got
  j : J got A Zo
  st : Step (fun k => k = l) Z Zo W A
  own : ∀ k, W.heap.size ≤ k → k < W.heap.size + 3 → ¬ Zo k
  zz : ∀ k, ZZ k ↔ (Zo k ∨ k = l ∨ k = W.heap.size + 1)
  y : A.cell? ⟨W.heap.size, 0, none⟩ = some (.func (.yield l) #[] #[])
  e : A.cell? ⟨W.heap.size + 1, 0, none⟩ = some (.int .i64 (e : Nat))
  fz : A.frozen? ⟨W.heap.size + 1, 0, none⟩ = false
  rd : RdB b s A
  big : W.heap.size + 3 ≤ A.heap.size
theorem frozen_keeps {Z : Nat → Prop} {W W' : World} (h : Keeps Z W W') {a : Addr} (hl : a.block < W.heap.size) (hn : ¬ Z a.block) : W'.frozen? a = W.frozen? a := World.frozen?_of_block (h.block a.block hl hn)
theorem BadI.keeps {s : ByteArray} {b l : Nat} {W A A' : World} {Z Zo ZZ Y : Nat → Prop} {J : List (List UInt8 × Nat) → World → (Nat → Prop) → Prop} {pre : List (List UInt8)} {r : List UInt8} {e : Nat} {got : List (List UInt8 × Nat)}
    (h : BadI s b l W Z J pre r e got Zo A ZZ) (hJ : AbidesZ W.heap.size J) (hk : Keeps Y A A') (hy : ∀ k, Y k → ¬ ZZ k ∧ W.heap.size + 3 ≤ k) (hb : b < W.heap.size) (hg : ∀ k, tabB k → k < W.heap.size) : BadI s b l W Z J pre r e got Zo A' ZZ := by
  have hle := h.st.keeps.size
  have hyw : ∀ k, k < W.heap.size + 3 → ¬ Y k := fun k hk y => by have := (hy k y).2; omega
  have l1 := World.block_lt_of_cell? A _ h.e
  exact ⟨h.units, h.at_, hJ _ _ _ Y _ h.j hk (fun k y => ⟨fun z => (hy k y).1 ((h.zz k).2 (.inl z)), by have := (hy k y).2; omega⟩), Step.fresh h.st hk (fun k y => by have := (hy k y).2; omega), h.own, h.zz,
    hk.cell h.y (hyw _ (by show W.heap.size < _; omega)), hk.cell h.e (hyw _ (by show W.heap.size + 1 < _; omega)), (frozen_keeps hk l1 (hyw _ (by show W.heap.size + 1 < _; omega))).trans h.fz,
    ⟨hk.cell h.rd.1 (hyw _ (by show b < _; omega)), h.rd.2.keeps hk (fun k t => hyw k (by have := hg k t; omega))⟩, Nat.le_trans h.big hk.size⟩
theorem units_next {l r : List UInt8} {pre : List (List UInt8)} {x : List UInt8} (h : sfx l = pre ++ sfx r) (hp : (pre ++ [x]) <+: sfx l) : r ≠ [] ∧ x = r ∧ sfx l = (pre ++ [x]) ++ sfx (r.drop (dw r)) := by
  obtain ⟨t, ht⟩ := hp
  rw [h, List.append_assoc] at ht
  have ht2 := List.append_cancel_left ht
  by_cases hr : r = []
  · subst hr; rw [sfx_nil] at ht2; simp at ht2
  · rw [sfx_cons hr] at ht2
    injection ht2 with e1 e2
    subst e1
    exact ⟨hr, rfl, by rw [h, sfx_cons hr]; simp⟩
/-- a piece is found: its end is stored, yield is called -/
structure Found (s : ByteArray) (b l : Nat) (W : World) (Z : Nat → Prop) (J Jx : List (List UInt8 × Nat) → World → (Nat → Prop) → Prop) (pre : List (List UInt8)) (x : List UInt8) (A2 : World) (ZZ : Nat → Prop) (got' : List (List UInt8 × Nat)) (Zo : Nat → Prop) (W5 : World) : Prop where
  y : W5.cell? ⟨W.heap.size, 0, none⟩ = some (.func (.yield l) #[] #[])
  size : W.heap.size ≤ W5.heap.size
  lt : ∀ k, Zo k → k < W5.heap.size
  on : ∀ W6 Z2, Step (fun k => k = l) Zo Z2 W5 W6 → J got' W6 Z2 → ∃ Z', Step none' ZZ Z' A2 W6 ∧ ∃ r e got Zo, BadI s b l W Z J (pre ++ [x]) r e got Zo W6 Z'
  off : ∀ W6 Z2, Step (fun k => k = l) Zo Z2 W5 W6 → Jx got' W6 Z2 → ∃ Z', Step none' ZZ Z' A2 W6 ∧ (Code.ret = Code.ret ∧ ∃ got Zo, got <+: pieces (bl s) ∧ Jx got W6 Zo ∧ Step (fun k => k = l) Z Zo W W6 ∧ ∀ k, Zo k → Z' k)
theorem BadI.found {s : ByteArray} {b l : Nat} {W A2 wr : World} {Z Zo ZZ : Nat → Prop} {J Jx : List (List UInt8 × Nat) → World → (Nat → Prop) → Prop} {pre : List (List UInt8)} {x : List UInt8} {e p q : Nat} {got : List (List UInt8 × Nat)}
    (h : BadI s b l W Z J pre x e got Zo wr ZZ) (hJ : AbidesZ W.heap.size J) (hst : Step none' ZZ ZZ A2 wr) (hl : l < W.heap.size) (hb : b < W.heap.size) (hbz : ¬ Z b) (hbl : b ≠ l) (hg : ∀ k, tabB k → k < W.heap.size) (hgz : ∀ k, tabB k → ¬ Z k ∧ k ≠ l)
    (hne : x ≠ []) (hi : ill x = true) (hpe : (bl s).length - x.length = p) (hep : e ≤ p) (hq : pl x = q) (hun : sfx (bl s) = (pre ++ [x]) ++ sfx (x.drop (dw x))) :
    J got (wr.setCell ⟨W.heap.size + 1, 0, none⟩ (.int .i64 ((p : Int) + q))) Zo ∧ (got ++ [(x, q)]) <+: pieces (bl s) ∧ Found s b l W Z J Jx pre x A2 ZZ (got ++ [(x, q)]) Zo (wr.setCell ⟨W.heap.size + 1, 0, none⟩ (.int .i64 ((p : Int) + q))) := by
  have hpc := h.at_.piece hne (by rw [hpe]; exact hep) hi
  rw [hpe, hq] at hpc
  have hle := h.st.keeps.size
  have hk5 : Keeps (fun k => k = W.heap.size + 1) wr (wr.setCell ⟨W.heap.size + 1, 0, none⟩ (.int .i64 ((p : Int) + q))) := Keeps.setCell _ _ _ rfl
  have e5 : (wr.setCell ⟨W.heap.size + 1, 0, none⟩ (.int .i64 ((p : Int) + q))).cell? ⟨W.heap.size + 1, 0, none⟩ = some (.int .i64 ((p + q : Nat) : Int)) := by
    rw [World.cell?_setCell_same' _ _ _ (by rw [h.e]; rfl)]; simp
  have f5 : (wr.setCell ⟨W.heap.size + 1, 0, none⟩ (.int .i64 ((p : Int) + q))).frozen? ⟨W.heap.size + 1, 0, none⟩ = false := by rw [World.frozen?_setCell]; exact h.fz
  have hsz := hk5.size
  generalize wr.setCell ⟨W.heap.size + 1, 0, none⟩ (.int .i64 ((p : Int) + q)) = W5 at *
  have hz1 : ¬ Zo (W.heap.size + 1) := h.own _ (by omega) (by omega)
  have hz0 : ¬ Zo W.heap.size := h.own _ (by omega) (by omega)
  have hzlt : ∀ k, Zo k → k < W5.heap.size := fun k z => Nat.lt_of_lt_of_le (h.st.lt k z) hsz
  have hnew : ∀ k, Zo k → Z k ∨ W.heap.size ≤ k := h.st.new
  have hst5 : Step (fun k => k = l) Z Zo W W5 := Step.fresh h.st hk5 (fun k y => by omega)
  have y5 := hk5.cell h.y (show ¬ W.heap.size = W.heap.size + 1 by omega)
  have s5 := hk5.cell h.rd.1 (show ¬ b = W.heap.size + 1 by omega)
  have t5 := h.rd.2.keeps hk5 (fun k t => by have := hg k t; omega)
  have hA5 : Step none' ZZ ZZ A2 W5 := hst.trans (Step.same (hk5.mono (fun k _ y => .inl ((h.zz k).2 (.inr (.inr y))))) hst.lt)
  have l1 := World.block_lt_of_cell? W5 _ e5
  have key : ∀ W6 Z2, Step (fun k => k = l) Zo Z2 W5 W6 → Step none' ZZ (fun k => Z2 k ∨ k = l ∨ k = W.heap.size + 1) A2 W6 := fun W6 Z2 h6 => by
    refine ⟨hA5.keeps.trans (h6.keeps.mono (Z' := fun k => ZZ k ∨ none' k) (fun k _ z => .inl ((h.zz k).2 (z.elim .inl (fun z => .inr (.inl z)))))) (fun _ _ z => z), fun k z => ?_, fun k z => ?_⟩
    · rcases z with z | z | z
      · rcases h6.new k z with z | z
        · exact .inl ((h.zz k).2 (.inl z))
        · exact .inr (Nat.le_trans hA5.keeps.size z)
      · exact .inl ((h.zz k).2 (.inr (.inl z)))
      · exact .inl ((h.zz k).2 (.inr (.inr z)))
    · have := h6.keeps.size
      rcases z with z | z | z
      · exact h6.lt k z
      · omega
      · have : W.heap.size + 1 < W5.heap.size := l1
        omega
  refine ⟨hJ _ _ _ _ _ h.j hk5 (fun k y => by subst y; exact ⟨hz1, by omega⟩), hpc.2, ⟨y5, by omega, hzlt, fun W6 Z2 h6 hj => ?_, fun W6 Z2 h6 hj => ?_⟩⟩
  · have hn : ∀ k, k < W.heap.size + 3 → ¬ Zo k → k ≠ l → ¬ (Zo k ∨ k = l) := fun k _ h1 h2 h3 => h3.elim h1 h2
    have h1l : W.heap.size + 1 ≠ l := by omega
    refine ⟨_, key W6 Z2 h6, _, p + q, _, Z2, ⟨hun, hpc.1, hj, hst5.trans h6, fun k k1 k2 z => ?_, fun k => Iff.rfl, h6.keeps.cell y5 (hn _ (by show W.heap.size < _; omega) hz0 (by show W.heap.size ≠ l; omega)), h6.keeps.cell e5 (hn _ (by show W.heap.size + 1 < _; omega) hz1 h1l),
      (frozen_keeps h6.keeps l1 (hn _ (by show W.heap.size + 1 < _; omega) hz1 h1l)).trans f5, ⟨h6.keeps.cell s5 (fun z => z.elim (fun z => (hnew b z).elim hbz (fun h' => by omega)) hbl), t5.keeps h6.keeps (fun k t z => z.elim (fun z => (hnew k z).elim (hgz k t).1 (fun h' => by have := hg k t; omega)) (hgz k t).2)⟩, Nat.le_trans h.big (Nat.le_trans hsz h6.keeps.size)⟩⟩
    rcases h6.new k z with z | z
    · exact h.own k k1 k2 z
    · have := h.big
      omega
  · exact ⟨_, key W6 Z2 h6, rfl, _, Z2, hpc.2, hj, hst5.trans h6, fun k z => .inl z⟩
set_option maxRecDepth 100000 in
set_option maxHeartbeats 2000000 in
theorem bad_seq (b : Nat) (s : ByteArray) (hs : s.size ≤ 140737488351232) : SeqZ Tryd.prog 87 #[.pointer (some ⟨b, 0, none⟩)] (encB s) (pieces (bl s)) (RdB b s) (RbB b) := by
  intro l J Jx W Z hrd hl hrb hz hJ hJx hY h0
  refine (callsIn_wide (n := 9)).1 ?_
  refine callsIn_of_wp_marks Tryd.func87 rfl trivial ?_
  simp only [Tryd.ntmps87, List.size_toArray, List.length_cons, List.length_nil, Nat.reduceAdd, Nat.reduceSub, Array.replicate_succ, Array.replicate_zero, List.push_toArray, List.append_toArray, List.nil_append, List.cons_append]
  obtain ⟨hcell, htab⟩ := hrd
  have hbl := bl_len s
  have cA := fun W => callsIn_wide (n := 8).2 (allfn_any s W)
  obtain ⟨hbs, hbz, hbl2⟩ := hrb b (.inl rfl)
  have hgs : ∀ k, tabB k → k < W.heap.size := fun k t => (hrb k (.inr t)).1
  have hgz : ∀ k, tabB k → ¬ Z k ∧ k ≠ l := fun k t => (hrb k (.inr t)).2
  have Hgs := Lib.hid hgs
  have Hgz := Lib.hid hgz
  have Hbl := Lib.hid hbl
  have Htab := Lib.hid htab
  clear hrb hgs hgz hbl htab
  gi_wp2_with fail
  refine ⟨trivial, (cA _).mono ?_⟩
  rintro e w' ⟨rfl, rfl⟩
  clear cA
  gi_wp2_with fail
  have b0 := cell_new_l W (.func (.yield l) #[] #[]) 87
  have b1 := cell_new_l (W.alloc (.cells #[.func (.yield l) #[] #[]] 87)) (.int .i64 0) 3
  have b2 := cell_new_l ((W.alloc (.cells #[.func (.yield l) #[] #[]] 87)).alloc (.cells #[.int .i64 0] 3)) (.string s) 9
  simp only [World.size_alloc] at b1 b2
  have hk3 : Keeps none' W (((W.alloc (.cells #[.func (.yield l) #[] #[]] 87)).alloc (.cells #[.int .i64 0] 3)).alloc (.cells #[.string s] 9)) :=
    ((Keeps.alloc none' W _).trans (Keeps.alloc none' _ _) (fun _ _ h => h)).trans (Keeps.alloc none' _ _) (fun _ _ h => h)
  have hs3 : (((W.alloc (.cells #[.func (.yield l) #[] #[]] 87)).alloc (.cells #[.int .i64 0] 3)).alloc (.cells #[.string s] 9)).heap.size = W.heap.size + 3 := by simp
  have y3 := cell_alloc_l (.cells #[.string s] 9) (cell_alloc_l (.cells #[.int .i64 0] 3) b0.1)
  have e3 := cell_alloc_l (.cells #[.string s] 9) b1.1
  have z3 := frozen_alloc_l (.cells #[.string s] 9) b1.1 b1.2
  have s3 := b2.1
  obtain ⟨W3, hW3⟩ : ∃ W3, (((W.alloc (.cells #[.func (.yield l) #[] #[]] 87)).alloc (.cells #[.int .i64 0] 3)).alloc (.cells #[.string s] 9)) = W3 := ⟨_, rfl⟩
  rw [hW3] at hk3 hs3 y3 e3 z3 s3 ⊢
  clear b0 b1 b2 hW3
  have hI0 : BadI s b l W Z J [] (bl s) 0 [] Z W3 (fun k => Z k ∨ k = l ∨ k = W.heap.size + 1) :=
    ⟨rfl, At.start _, hJ _ _ _ none' _ h0 hk3 (fun _ h => h.elim), Step.same (hk3.mono (fun _ _ h => h.elim)) hz, fun k h1 h2 z => by have := hz k z; omega, fun k => Iff.rfl, y3, e3, z3,
      ⟨hk3.cell hcell (fun h => h), Htab.out.keeps hk3 (fun _ _ h => h)⟩, by omega⟩
  refine range_out (gf := 91) (lb := #[.pointer (some ⟨W.heap.size + 1 + 1, 0, none⟩)]) rfl (enters_of Tryd.func91 (by kernel_rfl) rfl) (all_seq (W.heap.size + 2) s hs) (fun _ => rfl)
    (fun pre A ZZ => ∃ r e got Zo, BadI s b l W Z J pre r e got Zo A ZZ)
    (fun c pre A ZZ => c = .ret ∧ ∃ got Zo, got <+: pieces (bl s) ∧ Jx got A Zo ∧ Step (fun k => k = l) Z Zo W A ∧ ∀ k, Zo k → ZZ k)
    (fun k => Z k ∨ k = l ∨ k = W.heap.size + 1) ?hZ ?hRd ?hRb ?hI ?hIx ?hround ⟨_, _, _, _, hI0⟩ ?hdone ?hstop
  case hZ => rintro k (h | h | h) <;> first | (have := hz k h; omega) | omega
  case hRd => exact fun W' hk => hk.cell s3 (fun h => h)
  case hRb => rintro k rfl; exact ⟨by omega, fun h => h.elim (fun h => by have := hz _ h; omega) (fun h => by omega)⟩
  case hI =>
    rintro pre A B Y ZZ ⟨r, e, got, Zo, h⟩ hk hy
    exact ⟨r, e, got, Zo, h.keeps hJ hk (fun k y => ⟨(hy k y).1, by have := (hy k y).2; omega⟩) hbs Hgs.out⟩
  case hIx =>
    rintro c pre A B Y ZZ ⟨hc, got, Zo, hp, hj, hst, hzz⟩ hk hy
    exact ⟨hc, got, Zo, hp, hJx _ _ _ Y _ hj hk (fun k y => ⟨fun z => (hy k y).1 (hzz k z), by have := (hy k y).2; omega⟩), Step.fresh hst hk (fun k y => by have := (hy k y).2; omega), hzz⟩
  case hround =>
    rintro l2 pre x A ZZ hl2 hzl hrec ⟨r, e, got, Zo, h⟩ hzz hB hpre
    obtain ⟨hne, rfl, hun⟩ := units_next h.units hpre
    obtain ⟨hxl, hxd⟩ := units_drop (l := bl s) (r := x) h.units hne
    obtain ⟨p, hp⟩ : ∃ p, p = s.size - x.length := ⟨_, rfl⟩
    have hx1 : 1 ≤ x.length := List.length_pos_iff.2 hne
    rw [Hbl.out] at hxl hxd
    have hpl : p + x.length = s.size := by omega
    rw [← hp] at hxd
    simp only [encA]
    rw [← hp]
    have Hp := Lib.hid hp
    have Hxd := Lib.hid hxd
    have Hun := Lib.hid hun
    clear hp hxd hun
    gi_wp2
    refine ⟨Keeps.refl _ _, fun A2 hk2 hr2 _ => ?_⟩
    have hxd := Hxd.out
    have hun := Hun.out
    have hw3 : W3.heap.size ≤ A2.heap.size := Nat.le_trans (by omega) hk2.size
    have h := h.keeps hJ hk2 (fun k y => by subst y; exact ⟨hzl, by omega⟩) hbs Hgs.out
    have hzz2 : ∀ k, ZZ k → k < A2.heap.size := fun k z => Nat.lt_of_lt_of_le (hzz k z) hk2.size
    have hl22 : l2 < A2.heap.size := by obtain ⟨r, hr⟩ := hr2; exact lt_of_obj hr
    clear hrec hl2 hzz
    have hdU : decU (bl s) (p : Int) = (((dc x : Nat) : Int), ((dw x : Nat) : Int)) := by
      unfold decU
      rw [if_neg (by rw [Hbl.out]; omega), Int.toNat_natCast, ← hxd]
    have cD : Calls Tryd.prog 71 #[.string s, .int .i64 p] A2 fun e w' => e = .returned (.tuple #[.int .i32 (dc x : Nat), .int .i64 (dw x : Nat)]) ∧ Below A2.heap.size A2 w' :=
      (decode_any s p A2 h.rd.2 hs).mono fun e w' ⟨h1, h2⟩ => ⟨by rw [h1, hdU], h2⟩
    have hsc := h.rd.1
    obtain ⟨d, hd⟩ : ∃ d, dw x = d := ⟨_, rfl⟩
    rw [hd] at cD hun
    have hpI : (p : Int) < s.size := by omega
    have hps : p < s.size := by omega
    have hbyte : (s[p]'hps).toNat = bt x 0 := by rw [byte_bt hps, hxd, bt_drop, Nat.add_zero]
    have hw1 := dw_pos hne
    rw [hd] at hw1
    gi_wp2_with fail
    refine ⟨trivial, (CallsIn.inRound l2 (callsIn_wide (n := 8).2 cD)).mono ?_⟩
    rintro e1 A3 ⟨rfl, hb3⟩
    have hk3' := Keeps.of_below0 hb3
    have h3 := h.keeps hJ hk3' (fun k y => y.elim) hbs Hgs.out
    have hsc3 := h3.rd.1
    have hec3 := h3.e
    have hyc3 := h3.y
    have hat := h3.at_
    have hzz3 : ∀ k, ZZ k → k < A3.heap.size := fun k z => Nat.lt_of_lt_of_le (hzz2 k z) hk3'.size
    have hst3 : Step none' ZZ ZZ A2 A3 := Step.same (hk3'.mono (fun _ _ h => h.elim)) hzz2
    have hpe : (bl s).length - x.length = p := by rw [Hbl.out]; omega
    clear cD hsc hk2 Hun
    -- within a piece
    by_cases hin : p < e
    · have hinI : (p : Int) < (e : Int) := by omega
      have hn := hat.skip hne (by rw [hpe]; exact hin)
      rw [hd] at hn
      have hfin : ∃ Z', Step none' ZZ Z' A2 A3 ∧ ∃ r e got Zo, BadI s b l W Z J (pre ++ [x]) r e got Zo A3 Z' :=
        ⟨ZZ, hst3, _, _, _, _, { h3 with units := hun, at_ := hn }⟩
      have Hf := Lib.hid hfin
      clear hfin hat hn h h3 hY hdU hbyte hpe hun hxd
      gi_wp2
      exact Hf.out
    · have hinI : (e : Int) ≤ (p : Int) := by omega
      have hinB : decide ((p : Int) < (e : Int)) = false := by simp; omega
      cases hi : ill x with
      | false =>
        have hn := hat.char hne (by rw [hpe]; omega) hi
        rw [hd] at hn
        have hfin : ∃ Z', Step none' ZZ Z' A2 A3 ∧ ∃ r e got Zo, BadI s b l W Z J (pre ++ [x]) r e got Zo A3 Z' :=
          ⟨ZZ, hst3, _, _, _, _, { h3 with units := hun, at_ := hn }⟩
        have Hf := Lib.hid hfin
        have ht := ill_test hne
        rw [hi, hd] at ht
        by_cases hw : 1 < d
        · have hwI : (1 : Int) < (d : Int) := by omega
          clear hfin hat hn h h3 hY hdU hbyte hpe hun hxd ht hi hd
          gi_wp2
          exact Hf.out
        · have hwI : (d : Int) ≤ 1 := by omega
          have hwB : decide ((1 : Int) < (d : Int)) = false := by simp; omega
          have hb128 : bt x 0 < 128 := by
            rw [decide_eq_true (show d ≤ 1 by omega), Bool.true_and] at ht
            have := of_decide_eq_false ht.symm
            omega
          rw [← hbyte] at hb128
          have hbI : ((s[p]'hps).toNat : Int) < 128 := by omega
          clear hfin hat hn h h3 hY hdU hbyte hpe hun hxd ht hi hd
          gi_wp2
          exact Hf.out
      | true =>
        have hd1 : d = 1 := by
          rcases ill_or hne with ⟨_, _, _, hh⟩ | ⟨hh, _⟩
          · omega
          · rw [hi] at hh; cases hh
        have hb128 : 128 ≤ bt x 0 := by have := (ill_b0 hne hi).1; exact this
        rw [← hbyte] at hb128
        have hwI : (d : Int) ≤ 1 := by omega
        have hwB : decide ((1 : Int) < (d : Int)) = false := by simp; omega
        have hbI : (128 : Int) ≤ ((s[p]'hps).toNat : Int) := by omega
        have hbB : decide (((s[p]'hps).toNat : Int) < 128) = false := by simp; omega
        obtain ⟨q, hq⟩ : ∃ q, pl x = q := ⟨_, rfl⟩
        have hq3 : q ≤ 3 := by rw [← hq]; exact pl_three hne hi
        have hqx : q ≤ x.length := by rw [← hq]; exact pl_len hne
        have hqb : q = max 1 (bg x) := by rw [← hq]; rfl
        have cF : ∀ k, 1 ≤ k → k ≤ x.length → ∀ wr, Below A3.heap.size A3 wr → Calls Tryd.prog 34 #[.string (s.extract p (p + k))] wr fun e w' => e = .returned (.bool (decide (bg x < k))) ∧ Below wr.heap.size wr w' := fun k k1 k2 wr hb => by
          have hx : bl (s.extract p (p + k)) = x.take k := by
            have : bl (s.extract p (p + k)) = ((bl s).drop p).take (p + k - p) := by simp [bl, ByteArray.data_extract, Array.toList_extract, List.extract]
            rw [this, ← hxd]
            congr 1; omega
          have := full_any (s.extract p (p + k)) wr (h3.rd.2.keeps (Keeps.of_below0 hb) (fun _ _ h => h)) (by simp; omega)
          rw [hx, full_cut hne hi k1 k2] at this
          exact this
        obtain ⟨g, hg⟩ : ∃ g, bg x = g := ⟨_, rfl⟩
        rw [hg] at cF hqb
        have Hl := Lib.hid hqb
        have hq1 : 1 ≤ q := by omega
        have hgq : g ≤ q := by omega
        have hqg : q ≤ 1 ∨ q ≤ g := by omega
        clear hqb hg
        have hb5 : 0 ≤ ((s[p]'hps).toNat : Int) := by omega
        clear hb5
        have Hq := Lib.hid hq
        have Hd := Lib.hid hd
        have Hi := Lib.hid hi
        have Hpe := Lib.hid hpe
        have Hby := Lib.hid hbyte
        have HdU := Lib.hid hdU
        have Hx := Lib.hid hxd
        have Hu := Lib.hid hun
        subst hd1
        clear hq hd hi hpe hbyte hdU hxd hun
        gi_wp2
        gi_loopw [7, 8] (fun nv kv wr => ∃ n k : Nat, nv = .int .i64 n ∧ kv = .int .i64 k ∧ k ≤ n + 1 ∧ n + 1 ≤ k ∧ 1 ≤ n ∧ n ≤ q ∧ Below A3.heap.size A3 wr) (fun _ kv _ => 5 - (intOf kv).toNat)
        case atStart => exact ⟨1, 2, rfl, rfl, by omega, by omega, by omega, hq1, Below.refl _ _⟩
        case round =>
          obtain ⟨n, k, rfl, rfl, hk1, hk2, hn1, hnq, hbr⟩ := hrel
          have hk4' := Keeps.of_below0 hbr
          have h4 := h3.keeps hJ hk4' (fun k y => y.elim) hbs Hgs.out
          have hst4 : Step none' ZZ ZZ A2 wr := hst3.trans (Step.same (hk4'.mono (fun _ _ h => h.elim)) hzz3)
          have hsc4 := h4.rd.1
          have hxs : x.length ≤ s.size := by omega
          by_cases hc : k ≤ g
          · have hk4 : (k : Int) < 4 := by omega
            have hpk : (p : Int) + (k : Int) ≤ (s.size : Int) := by omega
            have cK := cF k (by omega) (by omega) wr hbr
            rw [decide_eq_false (show ¬ g < k by omega)] at cK
            clear cF hat h h3 h4 hY
            gi_wp2_with fail
            refine ⟨trivial, (CallsIn.inRound l2 (callsIn_wide (n := 8).2 cK)).mono ?_⟩
            rintro e5 W5 ⟨rfl, hb5⟩
            gi_wp2
            go_roundw
            case rel => exact ⟨k, k + 1, rfl, by go_num, by omega, by omega, by omega, by omega, hbr.trans (hb5.mono hbr.size)⟩
            case measure => simp [intOf]; omega
          · obtain rfl : n = q := by omega
            have hkI : (k : Int) ≤ n + 1 := by omega
            by_cases c4 : k < 4
            · have c4I : (k : Int) < 4 := by omega
              by_cases cs : p + k ≤ s.size
              · have csI : (p : Int) + (k : Int) ≤ (s.size : Int) := by omega
                have cK := cF k (by omega) (by omega) wr hbr
                rw [decide_eq_true (show g < k by omega)] at cK
                clear cF
                gi_wp2_with fail
                refine ⟨trivial, (CallsIn.inRound l2 (callsIn_wide (n := 8).2 cK)).mono ?_⟩
                rintro e5 wq ⟨rfl, hbq⟩
                have h4 := h4.keeps hJ (Keeps.of_below0 hbq) (fun k y => y.elim) hbs Hgs.out
                have hst4 : Step none' ZZ ZZ A2 wq := hst4.trans (Step.same ((Keeps.of_below0 hbq).mono (fun _ _ h => h.elim)) hst4.lt)
                clear hbq hbr cK hk4'
                obtain ⟨j5, p5, F⟩ := h4.found (Jx := Jx) hJ hst4 hl hbs hbz hbl2 Hgs.out Hgz.out hne Hi.out Hpe.out (by omega) Hq.out (by rw [Hd.out]; exact Hu.out)
                obtain ⟨fn, tmps, assign, body, hy, hR⟩ := hY (9 - 1) got (x, n) _ Zo j5 F.lt F.size p5
                dsimp only [encB] at hy hR
                rw [← Hp.out] at hy
                have y5 := F.y
                obtain ⟨W5, hW5⟩ : ∃ W5, wq.setCell ⟨W.heap.size + 1, 0, none⟩ (.int .i64 ((p : Int) + n)) = W5 := ⟨_, rfl⟩
                have e4 := h4.e
                have z4 := h4.fz
                rw [hW5] at hy hR y5 F
                clear hat h h3 h4 hY j5 p5 Hl
                gi_wp2
                refine hR.mono ?_
                rintro e6 W6 ⟨Z2, h6, (⟨rfl, hj6⟩ | ⟨rfl, hj6⟩)⟩
                · have Hf := Lib.hid (F.on W6 Z2 h6 hj6)
                  clear F
                  gi_wp2
                  exact Hf.out
                · have Hf := Lib.hid (F.off W6 Z2 h6 hj6)
                  clear F
                  gi_wp2
                  obtain ⟨Z', ha, _, hb⟩ := Hf.out
                  exact ⟨Z', ha, rfl, hb⟩
              · have csI : (s.size : Int) < (p : Int) + (k : Int) := by omega
                have csB : decide ((p : Int) + (k : Int) ≤ (s.size : Int)) = false := by simp; omega
                clear cF
                obtain ⟨j5, p5, F⟩ := h4.found (Jx := Jx) hJ hst4 hl hbs hbz hbl2 Hgs.out Hgz.out hne Hi.out Hpe.out (by omega) Hq.out (by rw [Hd.out]; exact Hu.out)
                obtain ⟨fn, tmps, assign, body, hy, hR⟩ := hY (9 - 1) got (x, n) _ Zo j5 F.lt F.size p5
                dsimp only [encB] at hy hR
                rw [← Hp.out] at hy
                have y5 := F.y
                obtain ⟨W5, hW5⟩ : ∃ W5, wr.setCell ⟨W.heap.size + 1, 0, none⟩ (.int .i64 ((p : Int) + n)) = W5 := ⟨_, rfl⟩
                have e4 := h4.e
                have z4 := h4.fz
                rw [hW5] at hy hR y5 F
                clear hat h h3 h4 hY j5 p5 Hl
                gi_wp2
                refine ⟨trivial, ?_⟩
                gi_wp2
                refine hR.mono ?_
                rintro e6 W6 ⟨Z2, h6, (⟨rfl, hj6⟩ | ⟨rfl, hj6⟩)⟩
                · have Hf := Lib.hid (F.on W6 Z2 h6 hj6)
                  clear F
                  gi_wp2
                  exact Hf.out
                · have Hf := Lib.hid (F.off W6 Z2 h6 hj6)
                  clear F
                  gi_wp2
                  obtain ⟨Z', ha, _, hb⟩ := Hf.out
                  exact ⟨Z', ha, rfl, hb⟩
            · have c4I : (4 : Int) ≤ k := by omega
              have c4B : decide ((k : Int) < 4) = false := by simp; omega
              clear cF
              obtain ⟨j5, p5, F⟩ := h4.found (Jx := Jx) hJ hst4 hl hbs hbz hbl2 Hgs.out Hgz.out hne Hi.out Hpe.out (by omega) Hq.out (by rw [Hd.out]; exact Hu.out)
              obtain ⟨fn, tmps, assign, body, hy, hR⟩ := hY (9 - 1) got (x, n) _ Zo j5 F.lt F.size p5
              dsimp only [encB] at hy hR
              rw [← Hp.out] at hy
              have y5 := F.y
              obtain ⟨W5, hW5⟩ : ∃ W5, wr.setCell ⟨W.heap.size + 1, 0, none⟩ (.int .i64 ((p : Int) + n)) = W5 := ⟨_, rfl⟩
              have e4 := h4.e
              have z4 := h4.fz
              rw [hW5] at hy hR y5 F
              clear hat h h3 h4 hY j5 p5 Hl
              gi_wp2
              refine ⟨trivial, ?_⟩
              gi_wp2
              refine hR.mono ?_
              rintro e6 W6 ⟨Z2, h6, (⟨rfl, hj6⟩ | ⟨rfl, hj6⟩)⟩
              · have Hf := Lib.hid (F.on W6 Z2 h6 hj6)
                clear F
                gi_wp2
                exact Hf.out
              · have Hf := Lib.hid (F.off W6 Z2 h6 hj6)
                clear F
                gi_wp2
                obtain ⟨Z', ha, _, hb⟩ := Hf.out
                exact ⟨Z', ha, rfl, hb⟩
  case hdone =>
    rintro D W' Z' hD hzD hst ⟨r, e, got, Zo, h⟩ hd
    have hgot : sfx r = [] := by
      have := congrArg List.length h.units
      rw [List.length_append] at this
      exact List.eq_nil_of_length_eq_zero (by omega)
    have hr : r = [] := by
      by_cases hr : r = []
      · exact hr
      · rw [sfx_cons hr] at hgot; cases hgot
    subst hr
    have hg := h.at_.fin
    subst hg
    have hzo : ∀ k, k = D → ¬ Zo k ∧ W.heap.size ≤ k := fun k e => by subst e; exact ⟨fun z => hzD ((h.zz _).2 (.inl z)), by omega⟩
    gi_wp2
    refine ⟨by simp, .inl ⟨_, _, rfl, run_takeDeferred hd, ?_⟩⟩
    have hkD : Keeps (fun k => k = D) W' (W'.putObj D (.deferred none)) := Keeps.putObj _ _ _ rfl
    exact ⟨_, results_none rfl _ _ _, ⟨_, rfl⟩, Zo, Step.fresh h.st hkD (fun k e => (hzo k e).2), .inl (hJ _ _ _ _ _ h.j hkD hzo)⟩
  case hstop =>
    rintro D c pre W' Z' hD hzD hst hpre ⟨rfl, got, Zo, hp, hj, hst2, hzz⟩ hd
    have hzo : ∀ k, k = D → ¬ Zo k ∧ W.heap.size ≤ k := fun k e => by subst e; exact ⟨fun z => hzD (hzz _ z), by omega⟩
    gi_wp2
    refine ⟨by simp, .inl ⟨_, _, rfl, run_takeDeferred hd, ?_⟩⟩
    have hkD : Keeps (fun k => k = D) W' (W'.putObj D (.deferred none)) := Keeps.putObj _ _ _ rfl
    exact ⟨_, results_none rfl _ _ _, ⟨_, rfl⟩, Zo, Step.fresh hst2 hkD (fun k e => (hzo k e).2), .inr ⟨got, hp, hJx _ _ _ _ _ hj hkD hzo⟩⟩
end Go.Proofs.YtbkimhbpcmbflaaDoor.C
set_option linter.unusedVariables false
set_option linter.unusedSimpArgs false
namespace Go.Proofs.YtbkimhbpcmbflaaDoor.C
open Go Go.RowKit Go.Shelf Go.Proofs.YtbkimhbpcmbflaaDoor.M Go.Proofs.YtbkimhbpcmbflaaDoor.Z
section
variable {P : Program} (w : World)
theorem run_append_str_lies (base : Nat) (t u ty e : TypeId) (i : TypeInfo) (ht : P.underlying t = some (.slice e)) (hu : P.underlying u = some .string) (hi : P.info? e = some i) (hz : i.zero = some (.int .u8 0))
    (hsize : i.size = 1) (hby : i.bytes = 1) (v : Value) (n : Nat) (xs : List Value) (hown : w.ownsRow base e 1 v n xs) (s : ByteArray)
    (h63 : n + s.size ≤ maxLen) (hbytes : n + s.size ≤ 140737488355328) (hbase : base ≤ w.heap.size) :
    ∃ v' w', (Builtin.append_ #[t, u] ty #[v, .string s]).run P w = .ok v' w' ∧ w'.ownsRow base e 1 v' (n + s.size) (xs ++ Lib.strCells s) ∧ w.grownBy w' v.ownBlock ∧
      (∀ g, v'.ownBlock = some g → v.ownBlock = some g ∨ g = w.heap.size) := by
  obtain ⟨v', w', hr, h2, h3, h4⟩ := Lib.run_append_own_string (P := P) w base t u ty e i ht hu hi hz hsize hby v n xs hown s h63 hbytes hbase
  refine ⟨v', w', hr, h2, h3, fun g hg => ?_⟩
  have hsmall : n + s.size ≤ 9223372036854775807 := by simp only [maxLen] at h63; omega
  have hxl : xs.length = n := by simpa using hown.1
  rcases hown.2 with ⟨rfl, rfl⟩ | ⟨b, cp, cur, rfl, hbg, hgg, hnc, hcm, hcs, htake⟩
  · by_cases hm : s.size = 0
    · rw [h4.2 ⟨rfl, hm⟩] at hg
      simp [Value.ownBlock] at hg
    · have hr' := run_append_nil_string (P := P) w t u ty e i (.int .u8 0) ht hu hi hz s (by omega) (by omega) (by rw [hby]; omega)
      rw [hr'] at hr
      injection hr with hv _
      subst hv
      right
      simpa [Value.ownBlock] using hg.symm
  · by_cases hroom : n + s.size ≤ cp
    · have hcs' : cur.size = cp := by simpa using hcs
      have hr' := Lib.run_append_room_string (P := P) w t u ty e i ht hu hi hsize b n cp cur hgg s hroom (by omega)
      rw [hr'] at hr
      injection hr with hv _
      subst hv
      left
      simpa [Value.ownBlock] using hg
    · have holds : ∀ j u, xs[j]? = some u → w.cell? ((⟨b, 0, none⟩ : Addr).add j) = some u := hown.cells (g := b) rfl
      have hr' := Lib.run_append_grow_string (P := P) w t u ty e i (.int .u8 0) ht hu hi hz ⟨b, 0, none⟩ n cp xs (by rw [hsize]; simpa using hxl) holds s (by omega) (by omega) (by rw [hby]; exact growslice_fits (by omega) (by omega))
      rw [hr'] at hr
      injection hr with hv _
      subst hv
      right
      simpa [Value.ownBlock] using hg.symm
theorem wpList_append_str_lies {ops : Array Oper} {rest : List Oper} {o : Oper} {a : Act} {Q : Exit → Act → World → Prop} (hgd : o.guard = none) (sl x : Operand) (t u : TypeId)
    (ho : o.op = .call { callee := .builtin .append, args := #[sl, x], argTypes := #[t, u] })
    (base : Nat) (e : TypeId) (i : TypeInfo) (ht : P.underlying t = some (.slice e)) (hu : P.underlying u = some .string) (hi : P.info? e = some i) (hz : i.zero = some (.int .u8 0))
    (hsize : i.size = 1) (hby : i.bytes = 1) (v : Value) (n : Nat) (xs : List Value) (hs : a.eval sl = v) (hown : w.ownsRow base e 1 v n xs) (s : ByteArray) (hx : a.eval x = .string s)
    (h63 : n + s.size ≤ maxLen) (hbytes : n + s.size ≤ 140737488355328) (hbase : base ≤ w.heap.size)
    (h : ∀ v' w', w'.ownsRow base e 1 v' (n + s.size) (xs ++ Lib.strCells s) → w.grownBy w' v.ownBlock → (∀ g, v'.ownBlock = some g → v.ownBlock = some g ∨ g = w.heap.size) → wpList P ops Q rest (a.put o.dst v') w') : wpList P ops Q (o :: rest) a w := by
  refine wpList_plain hgd fun K hK => ?_
  obtain ⟨v', w', hr, h2, h3, h4⟩ := run_append_str_lies (P := P) w base t u o.type e i ht hu hi hz hsize hby v n xs hown s h63 hbytes hbase
  unfold Oper.wp execOp
  simp only [ho, resolve, invoke, builtin, Sem.run_bind, Sem.run_pure, Result.andThen_ok, List.map_toArray, List.map_cons, List.map_nil, hs, hx, hr]
  exact hK _ _ (h v' w' h2 h3 h4)
end
/-- a strings.Builder of the call's own, and its buffer -/
structure Bd (w : World) (B b : Nat) (p v : Value) (bs : List UInt8) : Prop where
  le : B ≤ b
  blk : w.heap[b]? = some (.cells #[p, v] 90 (0, 0))
  p : p = .pointer none ∨ p = .pointer (some ⟨b, 0, none⟩)
  row : w.ownsRow B 5 1 v bs.length (bcells bs)
  ne : v.ownBlock ≠ some b
theorem owns_obj {w w' : World} {B n size : Nat} {e : TypeId} {v : Value} {xs : List Value} {Y : Nat → Prop} (h : w.ownsRow B e size v n xs) (hk : Keeps Y w w') (hv : ∀ g, v.ownBlock = some g → ¬ Y g) : w'.ownsRow B e size v n xs := by
  refine ⟨h.1, ?_⟩
  rcases h.2 with h | ⟨g, cap, cur, rfl, hb, hg, r⟩
  · exact .inl h
  · exact .inr ⟨g, cap, cur, rfl, hb, hk.obj hg (hv g (by simp [Value.ownBlock])), r⟩
theorem Bd.keeps {w w' : World} {B b : Nat} {p v : Value} {bs : List UInt8} {Y : Nat → Prop} (h : Bd w B b p v bs) (hk : Keeps Y w w') (hb : ¬ Y b) (hv : ∀ g, v.ownBlock = some g → ¬ Y g) : Bd w' B b p v bs :=
  ⟨h.le, hk.obj h.blk hb, h.p, owns_obj h.row hk hv, h.ne⟩
set_option maxHeartbeats 1000000 in
theorem copycheck_any {w : World} {B b : Nat} {p v : Value} {bs : List UInt8} (h : Bd w B b p v bs) :
    Calls Tryd.prog 117 #[.pointer (some ⟨b, 0, none⟩)] w fun e w' => e = .returned (.tuple #[]) ∧ Bd w' B b (.pointer (some ⟨b, 0, none⟩)) v bs ∧ Keeps (fun k => k = b) w w' := by
  rcases h.p with rfl | rfl
  · have := Any.Builder_copyCheck_fresh (P := Tryd.prog) (ρ := Tryd.lays105_ren) { Tryd.lays105 with } Tryd.Builder_Extra_105.toX72 b w (cell_of_row _ _ _ _ _ _ h.blk) (by simp [World.shape?, h.blk]; rfl) (frozen_cells h.blk 0)
    refine Calls.mono this ?_
    rintro e w' ⟨rfl, rfl⟩
    have hk : Keeps (fun k => k = b) w (w.setCell ⟨b, 0, none⟩ (.pointer (some ⟨b, 0, none⟩))) := Keeps.setCell _ _ _ rfl
    exact ⟨rfl, ⟨h.le, cell_modify h.blk 0 _, .inr rfl, owns_obj h.row hk (fun g hg e => h.ne (by rw [hg, e])), h.ne⟩, hk⟩
  · have := Any.Builder_copyCheck_used (P := Tryd.prog) (ρ := Tryd.lays105_ren) { Tryd.lays105 with } Tryd.Builder_Extra_105.toX72 b w (cell_of_row _ _ _ _ _ _ h.blk)
    refine Calls.mono this ?_
    rintro e w' ⟨rfl, rfl⟩
    exact ⟨rfl, h, Keeps.refl _ _⟩
set_option maxHeartbeats 1000000 in
set_option maxRecDepth 100000 in
theorem writestr_any {w : World} {B b : Nat} {p v : Value} {bs : List UInt8} (h : Bd w B b p v bs) (s : ByteArray) (hlen : bs.length + s.size ≤ 140737488355328) (hB : B ≤ w.heap.size) :
    Calls Tryd.prog 88 #[.pointer (some ⟨b, 0, none⟩), .string s] w fun e w' => e = .returned (.tuple #[.int .i64 s.size, .nilIface]) ∧
      ∃ v', Bd w' B b (.pointer (some ⟨b, 0, none⟩)) v' (bs ++ bl s) ∧ Keeps (fun k => k = b ∨ v.ownBlock = some k) w w' ∧ ∀ g, v'.ownBlock = some g → v.ownBlock = some g ∨ w.heap.size ≤ g := by
  obtain ⟨i0, hi, hz0, hz1, hz2⟩ := info_parts Tryd.infoByte
  have cC := copycheck_any h
  go_enter Tryd.func88, Tryd.ntmps88
  go_wp2_with fail
  refine cC.mono ?_
  rintro e w1 ⟨rfl, h1, hk1⟩
  have c1 : w1.cell? ⟨b, 1, none⟩ = some v := cell_of_row _ _ _ _ _ _ h1.blk
  have hs1 := hk1.size
  go_wp2_with (at_builtin; refine wpList_append_str_lies _ rfl _ _ 72 9 rfl B 5 i0 Tryd.underlying72 Tryd.underlying9 hi hz0 hz1 hz2 v bs.length (bcells bs) rfl h1.row s rfl (by unfold maxLen; omega) hlen (by omega) ?_)
  intro v' w2 hown' hgrow hlies
  have hb1 : b < w1.heap.size := lt_of_obj h1.blk
  have hb2 : w2.heap[b]? = some (.cells #[.pointer (some ⟨b, 0, none⟩), v] 90 (0, 0)) := (hgrow.block b hb1 (fun e => h1.ne e.symm)).trans h1.blk
  have d1 : w2.cell? ⟨b, 1, none⟩ = some v := cell_of_row _ _ _ _ _ _ hb2
  have f1 : w2.frozen? ⟨b, 1, none⟩ = false := frozen_cells hb2 1
  have hne' : v'.ownBlock ≠ some b := fun e => (hlies b e).elim (fun e => h1.ne e) (fun e => by omega)
  have hown2 : w2.ownsRow B 5 1 v' (bs ++ bl s).length (bcells (bs ++ bl s)) := by
    rw [List.length_append, bl_len, bcells_append]; exact hown'
  have hsz2 := hgrow.size
  have hres : ∀ ao n' cap, v' = .slice ao n' cap → Bd (w2.setCell ⟨b, 1, none⟩ v') B b (.pointer (some ⟨b, 0, none⟩)) v' (bs ++ bl s) ∧ Keeps (fun k => k = b ∨ v.ownBlock = some k) w (w2.setCell ⟨b, 1, none⟩ v') ∧ ∀ g, v'.ownBlock = some g → v.ownBlock = some g ∨ w.heap.size ≤ g := fun ao n' cap _ => by
    have hk3 : Keeps (fun k => k = b) w2 (w2.setCell ⟨b, 1, none⟩ v') := Keeps.setCell _ _ _ rfl
    refine ⟨⟨h.le, cell_modify hb2 1 _, .inr rfl, owns_obj hown2 hk3 (fun g hg e => hne' (by rw [hg, e])), hne'⟩, ?_, fun g hg => (hlies g hg).imp id (fun e => by omega)⟩
    refine ((hk1.mono (fun _ _ e => .inl e)).trans (Keeps.of_grownBy (Z := fun k => v.ownBlock = some k) hgrow (fun r e => e)) (fun _ _ e => .inr e)).trans hk3 (fun _ _ e => .inl e)
  obtain ⟨ao, n', cap, rfl⟩ : ∃ ao n' cap, v' = .slice ao n' cap := by
    rcases hown'.2 with ⟨hv, _⟩ | ⟨g, cap, cur, hv, _⟩
    · exact ⟨_, _, _, hv⟩
    · exact ⟨_, _, _, hv⟩
  have Hr := Lib.hid (hres ao n' cap rfl)
  clear hres hown' hown2 hlies hne' hgrow h1 hk1 cC
  go_wp2
  go_ret2
  exact ⟨rfl, _, Hr.out⟩
end Go.Proofs.YtbkimhbpcmbflaaDoor.C
set_option linter.unusedVariables false
set_option linter.unusedSimpArgs false
namespace Go.Proofs.YtbkimhbpcmbflaaDoor.C
open Go Go.RowKit Go.Shelf Go.Proofs.YtbkimhbpcmbflaaDoor.M Go.Proofs.YtbkimhbpcmbflaaDoor.Z
attribute [local go_sem] Oper.semAt_some
/-- what Mend's own blocks hold: the text, by, whole, the builder, how far the text is done -/
structure MI (w : World) (s t : ByteArray) (whole : Bool) (bs : List UInt8) (a : Nat) (v p : Value) (A : World) (ZZ : Nat → Prop) : Prop where
  bd : Bd A w.heap.size (w.heap.size + 3) p v bs
  at_ : A.cell? ⟨w.heap.size + 4, 0, none⟩ = some (.int .i64 (a : Nat))
  fz : A.frozen? ⟨w.heap.size + 4, 0, none⟩ = false
  s : A.cell? ⟨w.heap.size, 0, none⟩ = some (.string s)
  t : A.cell? ⟨w.heap.size + 1, 0, none⟩ = some (.string t)
  wh : A.cell? ⟨w.heap.size + 2, 0, none⟩ = some (.bool whole)
  zz : ∀ k, ZZ k ↔ (k = w.heap.size + 3 ∨ k = w.heap.size + 4 ∨ v.ownBlock = some k)
  st : Keeps none' w A
  big : w.heap.size + 5 ≤ A.heap.size
  own : ∀ g, v.ownBlock = some g → w.heap.size + 5 ≤ g
theorem MI.keeps {w A A' : World} {s t : ByteArray} {whole : Bool} {bs : List UInt8} {a : Nat} {v p : Value} {ZZ Y : Nat → Prop} (h : MI w s t whole bs a v p A ZZ) (hk : Keeps Y A A') (hy : ∀ k, Y k → ¬ ZZ k ∧ w.heap.size + 5 ≤ k) : MI w s t whole bs a v p A' ZZ := by
  have hn : ∀ k, k < w.heap.size + 5 → ¬ Y k := fun k hk' y => by have := (hy k y).2; omega
  have l1 := World.block_lt_of_cell? A _ h.at_
  exact ⟨h.bd.keeps hk (hn _ (by omega)) (fun g hg y => (hy g y).1 ((h.zz g).2 (.inr (.inr hg)))), hk.cell h.at_ (hn _ (by show w.heap.size + 4 < _; omega)), (frozen_keeps hk l1 (hn _ (by show w.heap.size + 4 < _; omega))).trans h.fz,
    hk.cell h.s (hn _ (by show w.heap.size < _; omega)), hk.cell h.t (hn _ (by show w.heap.size + 1 < _; omega)), hk.cell h.wh (hn _ (by show w.heap.size + 2 < _; omega)), h.zz,
    h.st.trans hk (fun i hi y => hn i (by omega) y), Nat.le_trans h.big hk.size, h.own⟩
theorem MI.lt {w A : World} {s t : ByteArray} {whole : Bool} {bs : List UInt8} {a : Nat} {v p : Value} {ZZ : Nat → Prop} (h : MI w s t whole bs a v p A ZZ) : ∀ k, ZZ k → k < A.heap.size := by
  have hb := h.big
  intro k z
  rcases (h.zz k).1 z with rfl | rfl | z
  · omega
  · omega
  · exact (h.bd.row.lt k z).2
theorem MI.write {w A : World} {s t : ByteArray} {whole : Bool} {bs : List UInt8} {a : Nat} {v p : Value} {ZZ : Nat → Prop} (h : MI w s t whole bs a v p A ZZ) (x : ByteArray) (hlen : bs.length + x.size ≤ 140737488355328) :
    Calls Tryd.prog 88 #[.pointer (some ⟨w.heap.size + 3, 0, none⟩), .string x] A fun e A' => e = .returned (.tuple #[.int .i64 x.size, .nilIface]) ∧
      ∃ v' p' ZZ', MI w s t whole (bs ++ bl x) a v' p' A' ZZ' ∧ Step none' ZZ ZZ' A A' := by
  have hb := h.big
  refine (writestr_any h.bd x hlen (by omega)).mono ?_
  rintro e A' ⟨he, v', hbd, hk, hl⟩
  have hn : ∀ k, k < w.heap.size + 5 → k ≠ w.heap.size + 3 → ¬ (k = w.heap.size + 3 ∨ v.ownBlock = some k) := fun k hk' h3 y => y.elim h3 (fun y => by have := h.own k y; omega)
  have l1 := World.block_lt_of_cell? A _ h.at_
  refine ⟨he, v', _, fun k => k = w.heap.size + 3 ∨ k = w.heap.size + 4 ∨ v'.ownBlock = some k, ⟨hbd, hk.cell h.at_ (hn _ (by show w.heap.size + 4 < _; omega) (by show w.heap.size + 4 ≠ _; omega)), (frozen_keeps hk l1 (hn _ (by show w.heap.size + 4 < _; omega) (by show w.heap.size + 4 ≠ _; omega))).trans h.fz,
    hk.cell h.s (hn _ (by show w.heap.size < _; omega) (by show w.heap.size ≠ _; omega)), hk.cell h.t (hn _ (by show w.heap.size + 1 < _; omega) (by show w.heap.size + 1 ≠ _; omega)), hk.cell h.wh (hn _ (by show w.heap.size + 2 < _; omega) (by show w.heap.size + 2 ≠ _; omega)), fun k => Iff.rfl,
    h.st.trans hk (fun i hi y => hn i (by omega) (by omega) y), Nat.le_trans h.big hk.size, fun g hg => (hl g hg).elim (h.own g) (fun h' => by omega)⟩, ⟨hk.mono (fun k _ y => .inl ((h.zz k).2 (y.elim .inl (fun y => .inr (.inr y))))), fun k z => ?_, fun k z => ?_⟩⟩
  · rcases z with z | z | z
    · exact .inl ((h.zz k).2 (.inl z))
    · exact .inl ((h.zz k).2 (.inr (.inl z)))
    · exact (hl k z).imp (fun z => (h.zz k).2 (.inr (.inr z))) id
  · have := hk.size
    rcases z with z | z | z
    · omega
    · omega
    · exact (hbd.row.lt k z).2
theorem MI.store {w A : World} {s t : ByteArray} {whole : Bool} {bs : List UInt8} {a : Nat} {v p : Value} {ZZ : Nat → Prop} (h : MI w s t whole bs a v p A ZZ) (a' : Nat) (z : Value) (hz : z = .int .i64 (a' : Nat)) :
    MI w s t whole bs a' v p (A.setCell ⟨w.heap.size + 4, 0, none⟩ z) ZZ ∧ Step none' ZZ ZZ A (A.setCell ⟨w.heap.size + 4, 0, none⟩ z) := by
  subst hz
  have hb := h.big
  have hk : Keeps (fun k => k = w.heap.size + 4) A (A.setCell ⟨w.heap.size + 4, 0, none⟩ (.int .i64 (a' : Nat))) := Keeps.setCell _ _ _ rfl
  have l1 := World.block_lt_of_cell? A _ h.at_
  refine ⟨⟨h.bd.keeps hk (by omega) (fun g hg e => ?_), World.cell?_setCell_same' _ _ _ (by rw [h.at_]; rfl), by rw [World.frozen?_setCell]; exact h.fz, hk.cell h.s (by show ¬ w.heap.size = _; omega), hk.cell h.t (by show ¬ w.heap.size + 1 = _; omega), hk.cell h.wh (by show ¬ w.heap.size + 2 = _; omega), h.zz,
    h.st.trans hk (fun i hi y => by omega), Nat.le_trans h.big hk.size, h.own⟩, Step.same (hk.mono (fun k _ y => .inl ((h.zz k).2 (.inr (.inl y))))) h.lt⟩
  have := h.own g hg
  omega
theorem bl_cut {s : ByteArray} {i j : Nat} (hj : j ≤ s.size) : bl (s.extract i j) = ((bl s).take j).drop i := by
  have : bl (s.extract i j) = ((bl s).drop i).take (j - i) := by simp [bl, ByteArray.data_extract, Array.toList_extract, List.extract]
  rw [this, List.drop_take]
/-- what is put in a piece's place -/
def repB (t : ByteArray) (whole : Bool) (n : Nat) : List UInt8 := if whole then bl t else Lib.repeatL (bl t) n
theorem repeatL_len (l : List UInt8) (n : Nat) : (Lib.repeatL l n).length = n * l.length := by
  induction n with
  | zero => simp [Lib.repeatL]
  | succ n ih => simp [Lib.repeatL, ih, Nat.add_mul]; omega
theorem repB_len (t : ByteArray) (whole : Bool) : ∀ n, n ≤ 3 → (repB t whole n).length ≤ 3 * t.size := by
  intro n hn
  unfold repB
  split
  · rw [bl_len]; omega
  · rw [repeatL_len, bl_len]; exact Nat.mul_le_mul_right _ hn
set_option maxRecDepth 100000 in
set_option maxHeartbeats 2000000 in
theorem mend_any (s t : ByteArray) (whole : Bool) (w : World) (hT : Tabs w) (hs : s.size ≤ 140737488351232) (hlen : s.size + s.size * (3 * t.size) ≤ 140737488355328) (ht : t.size * 3 ≤ 140737488355328) :
    Calls Tryd.prog 40 #[.string s, .string t, .bool whole] w fun e w' => e = .returned (.string ⟨(mend (bl s) (repB t whole)).toArray⟩) ∧ Below w.heap.size w w' := by
  obtain ⟨ANS, hANS⟩ : ∃ ANS, mend (bl s) (repB t whole) = ANS := ⟨_, rfl⟩
  rw [hANS]
  have Hans := Lib.hid hANS
  clear hANS
  refine (callsIn_wide (n := 9)).1 ?_
  refine callsIn_of_wp_marks Tryd.func40 rfl trivial ?_
  simp only [Tryd.ntmps40, List.size_toArray, List.length_cons, List.length_nil, Nat.reduceAdd, Nat.reduceSub, Array.replicate_succ, Array.replicate_zero, List.push_toArray, List.append_toArray, List.nil_append, List.cons_append]
  have hbl := bl_len s
  have htl := bl_len t
  have cB := fun W => callsIn_wide (n := 8).2 (badfn_any s W)
  have Htab := Lib.hid hT
  have Hbl := Lib.hid hbl
  have Htl := Lib.hid htl
  have hTlt : ∀ k, tabB k → k < w.heap.size := fun k tk => by
    rcases tk with rfl | rfl
    · exact cell_blk (hT.1 0 (by decide))
    · exact cell_blk (hT.2 0 (by decide)).1
  have HTlt := Lib.hid hTlt
  clear hT hbl htl hTlt
  gi_wp2_with fail
  refine ⟨trivial, (cB _).mono ?_⟩
  rintro e w' ⟨rfl, rfl⟩
  clear cB
  gi_wp2_with fail
  obtain ⟨W1, hW1⟩ : ∃ W1, w.alloc (.cells #[.string s] 9) = W1 := ⟨_, rfl⟩
  have q0 := cell_new_l w (.string s) 9
  have z1 : W1.heap.size = w.heap.size + 1 := by rw [← hW1]; simp
  have k1 : Keeps none' w W1 := by rw [← hW1]; exact Keeps.alloc _ _ _
  rw [hW1] at q0 ⊢
  obtain ⟨W2, hW2⟩ : ∃ W2, W1.alloc (.cells #[.string t] 9) = W2 := ⟨_, rfl⟩
  have q1 := cell_new_l W1 (.string t) 9
  have z2 : W2.heap.size = w.heap.size + 2 := by rw [← hW2]; simp; omega
  have k2 : Keeps none' W1 W2 := by rw [← hW2]; exact Keeps.alloc _ _ _
  rw [hW2, z1] at q1
  rw [hW2]
  obtain ⟨W3, hW3⟩ : ∃ W3, W2.alloc (.cells #[.bool whole] 4) = W3 := ⟨_, rfl⟩
  have q2 := cell_new_l W2 (.bool whole) 4
  have z3 : W3.heap.size = w.heap.size + 3 := by rw [← hW3]; simp; omega
  have k3 : Keeps none' W2 W3 := by rw [← hW3]; exact Keeps.alloc _ _ _
  rw [hW3, z2] at q2
  rw [hW3]
  obtain ⟨W4, hW4⟩ : ∃ W4, W3.alloc (.cells #[.pointer none, .slice none 0 0] 90) = W4 := ⟨_, rfl⟩
  have q3 := heap_alloc_new W3 (.cells #[.pointer none, .slice none 0 0] 90)
  have z4 : W4.heap.size = w.heap.size + 4 := by rw [← hW4]; simp; omega
  have k4 : Keeps none' W3 W4 := by rw [← hW4]; exact Keeps.alloc _ _ _
  rw [hW4, z3] at q3
  rw [hW4]
  obtain ⟨W5, hW5⟩ : ∃ W5, W4.alloc (.cells #[.int .i64 0] 3) = W5 := ⟨_, rfl⟩
  have q4 := cell_new_l W4 (.int .i64 0) 3
  have z5 : W5.heap.size = w.heap.size + 5 := by rw [← hW5]; simp; omega
  have k5 : Keeps none' W4 W5 := by rw [← hW5]; exact Keeps.alloc _ _ _
  rw [hW5, z4] at q4
  rw [hW5]
  obtain ⟨W6, hW6⟩ : ∃ W6, W5.alloc (.cells #[.string s] 9) = W6 := ⟨_, rfl⟩
  have q5 := cell_new_l W5 (.string s) 9
  have z6 : W6.heap.size = w.heap.size + 6 := by rw [← hW6]; simp; omega
  have k6 : Keeps none' W5 W6 := by rw [← hW6]; exact Keeps.alloc _ _ _
  rw [hW6, z5] at q5
  rw [hW6]
  have nn : ∀ {A B C : World}, Keeps none' A B → Keeps none' B C → Keeps none' A C := fun h k => h.trans k (fun _ _ h => h)
  have k56 := k6
  have k46 := nn k5 k56
  have k36 := nn k4 k46
  have k26 := nn k3 k36
  have k16 := nn k2 k26
  have k06 := nn k1 k16
  have f4 : W6.frozen? ⟨w.heap.size + 4, 0, none⟩ = false := (frozen_keeps k56 (World.block_lt_of_cell? W5 _ q4.1) (fun h => h)).trans q4.2
  have hI0 : MI w s t whole [] 0 (.slice none 0 0) (.pointer none) W6 (fun k => k = w.heap.size + 3 ∨ k = w.heap.size + 4 ∨ (Value.slice none 0 0).ownBlock = some k) :=
    ⟨⟨by omega, k46.obj q3 (fun h => h), .inl rfl, World.ownsRow_nil _ _ _ _, by simp [Value.ownBlock]⟩, k56.cell q4.1 (fun h => h), f4, k16.cell q0.1 (fun h => h), k26.cell q1.1 (fun h => h), k36.cell q2.1 (fun h => h), fun k => Iff.rfl, k06, by omega, fun g hg => by simp [Value.ownBlock] at hg⟩
  have hs5 := q5.1
  have hml : ∀ pre, pre <+: pieces (bl s) → (mfold (bl s) (repB t whole) pre).1.length + (s.size - (mfold (bl s) (repB t whole) pre).2) + (s.size - pre.length) * (3 * t.size) ≤ 140737488355328 ∧ MAt (bl s) (repB t whole) pre := fun pre hp => by
    obtain ⟨h1, h2⟩ := mfold_len (repB_len t whole) pre hp
    refine ⟨?_, h2⟩
    have h3 := h2.le
    rw [Hbl.out] at h3
    have h4 : pre.length ≤ s.size := by have := pieces_count (bl s); rw [Hbl.out] at this; exact Nat.le_trans hp.length_le this
    have h5 : pre.length * (3 * t.size) + (s.size - pre.length) * (3 * t.size) = s.size * (3 * t.size) := by rw [← Nat.add_mul]; congr 1; omega
    omega
  have Hml := Lib.hid hml
  clear hml
  clear q0 q1 q2 q3 q4 q5 k1 k2 k3 k4 k5 k6 k56 k46 k36 k26 k16 hW1 hW2 hW3 hW4 hW5 hW6 z1 z2 z3 z4 z5 f4 nn
  refine range_out (gf := 87) (lb := #[.pointer (some ⟨w.heap.size + 1 + 1 + 1 + 1 + 1, 0, none⟩)]) rfl (enters_of Tryd.func87 (by kernel_rfl) rfl) (bad_seq (w.heap.size + 5) s hs) (fun _ => rfl)
    (fun pre A ZZ => pre <+: pieces (bl s) ∧ ∃ v p, MI w s t whole (mfold (bl s) (repB t whole) pre).1 (mfold (bl s) (repB t whole) pre).2 v p A ZZ)
    (fun _ _ _ _ => False)
    (fun k => k = w.heap.size + 3 ∨ k = w.heap.size + 4 ∨ (Value.slice none 0 0).ownBlock = some k) ?hZ ?hRd ?hRb ?hI ?hIx ?hround ⟨⟨_, rfl⟩, _, _, hI0⟩ ?hdone ?hstop
  case hZ => exact hI0.lt
  case hRd => exact fun W' hk => ⟨hk.cell hs5 (fun h => h), (Htab.out.keeps k06 (fun _ _ h => h)).keeps hk (fun _ _ h => h)⟩
  case hRb =>
    rintro k (rfl | tk)
    · refine ⟨by omega, fun z => ?_⟩
      rcases z with z | z | z
      · omega
      · omega
      · simp [Value.ownBlock] at z
    · have := HTlt.out k tk
      refine ⟨by omega, fun z => ?_⟩
      rcases z with z | z | z
      · omega
      · omega
      · simp [Value.ownBlock] at z
  case hI =>
    rintro pre A B Y ZZ ⟨hp, v, p, h⟩ hk hy
    exact ⟨hp, v, p, h.keeps hk (fun k y => ⟨(hy k y).1, by have := (hy k y).2; omega⟩)⟩
  case hIx => exact fun c pre A B Y ZZ h _ _ => h.elim
  case hround =>
    rintro l2 pre x A ZZ hl2 hzl hrec ⟨hp, v, p, h⟩ hzz hB hpre
    obtain ⟨l1, lm⟩ := Hml.out _ hp
    obtain ⟨_, n2, n3, n4, n5, n6, _⟩ := lm.next hpre
    have hx3 : x.2 ≤ 3 := by rw [n6]; exact pieces_three _ x (hpre.subset (by simp))
    have hpc : pre.length + 1 ≤ s.size := by
      have h1 := hpre.length_le
      have h2 := pieces_count (bl s)
      rw [Hbl.out] at h2
      simp at h1
      omega
    obtain ⟨d, hdd⟩ : ∃ d, s.size - pre.length = d + 1 := ⟨s.size - pre.length - 1, by omega⟩
    rw [hdd, Nat.add_mul, Nat.one_mul] at l1
    obtain ⟨o, ho⟩ : ∃ o, (mfold (bl s) (repB t whole) pre).1 = o := ⟨_, rfl⟩
    obtain ⟨a, ha⟩ : ∃ a, (mfold (bl s) (repB t whole) pre).2 = a := ⟨_, rfl⟩
    rw [ho, ha] at h l1
    rw [ha] at n2
    rw [Hbl.out] at n2 n3
    obtain ⟨f, hf⟩ : ∃ f, s.size - x.1.length = f := ⟨_, rfl⟩
    obtain ⟨n, hn⟩ : ∃ n, x.2 = n := ⟨_, rfl⟩
    rw [hf] at n2
    have hfs : f + x.1.length = s.size := by omega
    rw [hn] at n4 hx3
    have hl3 := repB_len t whole n hx3
    simp only [encB]
    rw [hf, hn]
    have Hf := Lib.hid hf
    have Hn := Lib.hid hn
    have Ho := Lib.hid ho
    have Ha := Lib.hid ha
    have hfs2 : f + n ≤ s.size := by omega
    have hafI : (a : Int) ≤ (f : Int) := by omega
    have hfI : (f : Int) ≤ s.size := by omega
    have hx1 : bl (s.extract a f) = ((bl s).take f).drop a := bl_cut (by omega)
    have hxs : (s.extract a f).size = f - a := by simp; omega
    clear hf hn ho ha n6 hdd hpc lm hfs n5 n4
    gi_wp2
    refine ⟨Keeps.refl _ _, ?_⟩
    intro A2 hk2
    intros
    have hm2 := h.keeps hk2 (fun k y => by subst y; exact ⟨hzl, by omega⟩)
    have c1 := hm2.write (s.extract a f) (by rw [hxs]; omega)
    rw [hx1] at c1
    have e1 := hm2.s
    have e2 := hm2.at_
    clear hrec h hl2 hx1
    gi_wp2_with fail
    refine ⟨trivial, (CallsIn.inRound l2 (callsIn_wide (n := 8).2 c1)).mono ?_⟩
    rintro e A3 ⟨rfl, v3, p3, Z3, m3, st3⟩
    have e3 := m3.t
    have e3w := m3.wh
    have hol : (o ++ ((bl s).take f).drop a).length = o.length + (f - a) := by rw [List.length_append, List.length_drop, List.length_take, Hbl.out]; omega
    clear c1 e1 e2 hm2
    cases whole with
    | true =>
      have c2 := m3.write t (by rw [hol]; have : (repB t true n).length = t.size := by show (bl t).length = _; exact Htl.out
                                omega)
      gi_wp2_with fail
      refine ⟨trivial, (CallsIn.inRound l2 (callsIn_wide (n := 8).2 c2)).mono ?_⟩
      rintro e A4 ⟨rfl, v4, p4, Z4, m4, st4⟩
      clear c2 m3
      obtain ⟨m5, st5⟩ := m4.store (f + n) (.int .i64 ((f : Int) + n)) (by rw [Int.natCast_add])
      have e4 := m4.at_
      have z4 := m4.fz
      have hfin : ∃ Z', Step none' ZZ Z' A2 (A4.setCell ⟨w.heap.size + 4, 0, none⟩ (.int .i64 ((f : Int) + n))) ∧ ((pre ++ [x]) <+: pieces (bl s) ∧ ∃ v p, MI w s t true (mfold (bl s) (repB t true) (pre ++ [x])).1 (mfold (bl s) (repB t true) (pre ++ [x])).2 v p (A4.setCell ⟨w.heap.size + 4, 0, none⟩ (.int .i64 ((f : Int) + n))) Z') := by
        refine ⟨_, (st3.trans st4).trans st5, hpre, v4, p4, ?_⟩
        rw [mfold_snoc]
        simp only [mstep, Ho.out, Ha.out, Hn.out]
        rw [Hbl.out, Hf.out, ← List.append_assoc]
        exact m5
      have Hfin := Lib.hid hfin
      clear hfin m5 st5 m4
      gi_wp2
      exact Hfin.out
    | false =>
      have hrl : (Lib.repeatL (bl t) n).length = n * t.size := by rw [repeatL_len, Htl.out]
      have hr3 : n * t.size ≤ 3 * t.size := Nat.mul_le_mul_right _ hx3
      have cR := Tryd.strings_Repeat t n A3 (by omega) (by rw [Nat.mul_comm]; omega)
      gi_wp2_with fail
      refine ⟨trivial, (CallsIn.inRound l2 (callsIn_wide (n := 8).2 cR)).mono ?_⟩
      rintro e A3' ⟨rfl, hb3⟩
      have m3' := m3.keeps (Keeps.of_below0 hb3) (fun k y => y.elim)
      have st3' : Step none' Z3 Z3 A3 A3' := Step.same ((Keeps.of_below0 hb3).mono (fun _ _ h => h.elim)) m3.lt
      have c2 := m3'.write ⟨(Lib.repeatL (bl t) n).toArray⟩ (by rw [hol]; show _ + (Lib.repeatL (bl t) n).toArray.size ≤ _; rw [List.size_toArray, hrl]; omega)
      have hrb : bl (⟨(Lib.repeatL (bl t) n).toArray⟩ : ByteArray) = Lib.repeatL (bl t) n := rfl
      rw [hrb] at c2
      clear cR m3 hrb hb3
      gi_wp2_with fail
      refine ⟨trivial, (CallsIn.inRound l2 (callsIn_wide (n := 8).2 c2)).mono ?_⟩
      rintro e A4 ⟨rfl, v4, p4, Z4, m4, st4⟩
      clear c2 m3'
      obtain ⟨m5, st5⟩ := m4.store (f + n) (.int .i64 ((f : Int) + n)) (by rw [Int.natCast_add])
      have e4 := m4.at_
      have z4 := m4.fz
      have hfin : ∃ Z', Step none' ZZ Z' A2 (A4.setCell ⟨w.heap.size + 4, 0, none⟩ (.int .i64 ((f : Int) + n))) ∧ ((pre ++ [x]) <+: pieces (bl s) ∧ ∃ v p, MI w s t false (mfold (bl s) (repB t false) (pre ++ [x])).1 (mfold (bl s) (repB t false) (pre ++ [x])).2 v p (A4.setCell ⟨w.heap.size + 4, 0, none⟩ (.int .i64 ((f : Int) + n))) Z') := by
        refine ⟨_, ((st3.trans st3').trans st4).trans st5, hpre, v4, p4, ?_⟩
        rw [mfold_snoc]
        simp only [mstep, Ho.out, Ha.out, Hn.out]
        rw [Hbl.out, Hf.out, ← List.append_assoc]
        exact m5
      have Hfin := Lib.hid hfin
      clear hfin m5 st5 m4
      gi_wp2
      exact Hfin.out
  case hdone =>
    rintro D W' Z' hD hzD hst ⟨hp, v, p, h⟩ hd
    obtain ⟨l1, l2⟩ := Hml.out _ hp
    have hle := l2.le
    rw [Hbl.out] at hle
    have hans := Hans.out
    unfold mend at hans
    obtain ⟨o, ho⟩ : ∃ o, (mfold (bl s) (repB t whole) (pieces (bl s))).1 = o := ⟨_, rfl⟩
    obtain ⟨a, ha⟩ : ∃ a, (mfold (bl s) (repB t whole) (pieces (bl s))).2 = a := ⟨_, rfl⟩
    rw [ho, ha] at h
    rw [ha] at hle
    rw [ho, ha] at l1
    rw [ho, ha] at hans
    have hrest : bl (s.extract a s.size) = (bl s).drop a := bl_extract s a
    have hxs : (s.extract a s.size).size = s.size - a := by simp
    have cW := h.write (s.extract a s.size) (by rw [hxs]; omega)
    rw [hrest] at cW
    have e1 := h.s
    have e2 := h.at_
    have haI : (a : Int) ≤ s.size := by omega
    have Hd := Lib.hid hd
    clear hd hrest hxs l1 l2 ho ha hst
    gi_wp2_with fail
    refine ⟨trivial, (callsIn_wide (n := 8).2 cW).mono ?_⟩
    rintro e W2 ⟨rfl, v', p', Z2, h2, st2⟩
    have hd2 : W2.heap[D]? = some (.deferred (some [])) := st2.keeps.obj Hd.out (fun z => z.elim hzD (fun z => z))
    have hB : Lib.IsBuilderF 90 5 w.heap.size (w.heap.size + 3) (Lib.byteCells (o ++ (bl s).drop a)) W2 := by
      have row : W2.ownsRow w.heap.size 5 1 v' (Lib.byteCells (o ++ (bl s).drop a)).length (Lib.byteCells (o ++ (bl s).drop a)) := by
        have := h2.bd.row
        rw [show (Lib.byteCells (o ++ (bl s).drop a)).length = (o ++ (bl s).drop a).length by simp [Lib.byteCells]]
        exact this
      rcases h2.bd.p with rfl | rfl
      · exact .inl (Lib.BuilderAtF.of ⟨h2.bd.le, v', h2.bd.blk, row, h2.bd.ne⟩)
      · exact .inr (Lib.BuilderAtF.of ⟨h2.bd.le, v', h2.bd.blk, row, h2.bd.ne⟩)
    have hb2 := h2.st.size
    have cS := Tryd.Builder_String_any_k w.heap.size (w.heap.size + 3) (o ++ (bl s).drop a) W2 hB hb2
    have hD3 : some D ≠ some (w.heap.size + 3) := by intro e; injection e; omega
    obtain ⟨res, hres⟩ : ∃ res, o ++ (bl s).drop a = res := ⟨_, rfl⟩
    rw [hres] at cS hans
    subst hans
    have hbw := h2.st.below (Nat.le_refl _) (fun k z => z.elim)
    clear h h2 hB cW e1 e2 hres
    gi_wp2_with fail
    refine ⟨trivial, (callsIn_wide (n := 8).2 cS).mono ?_⟩
    rintro e W3 ⟨rfl, _, hb3, hk3⟩
    have hd3 := hk3 D _ hd2 hD3 (fun c fz e => by cases e)
    gi_wp2
    refine ⟨by simp, .inl ⟨_, _, rfl, run_takeDeferred hd3, ?_⟩⟩
    exact ⟨_, results_tmp rfl _ _ _, rfl, (hbw.trans hb3).trans (belowK_b (w := w) (Nat.le_refl _) W3 D _ _ (by omega) hd3 rfl rfl)⟩
  case hstop => exact fun D c pre W' Z' _ _ _ _ h _ => h.elim
end Go.Proofs.YtbkimhbpcmbflaaDoor.C
set_option linter.unusedVariables false
set_option linter.unusedSimpArgs false
namespace Go.Proofs.YtbkimhbpcmbflaaDoor.C
open Go Go.RowKit Go.Shelf Go.Proofs.YtbkimhbpcmbflaaDoor.M Go.Proofs.YtbkimhbpcmbflaaDoor.Z Go.Proofs.YtbkimhbpcmbflaaDoor.PAll Go.Proofs.YtbkimhbpcmbflaaDoorW.PrintWords
theorem decodeU_at (l : List UInt8) (p : Nat) (h : p < l.length) : decU l (p : Int) = (((dc (l.drop p) : Nat) : Int), ((dw (l.drop p) : Nat) : Int)) := by
  unfold decU; rw [if_neg (by omega), Int.toNat_natCast]
/-- utf.Runes -/
theorem runesfn_any (s : ByteArray) (W : World) (h46 : (sfx (bl s)).length ≤ 70368744177664) :
    Calls Tryd.prog 43 #[.string s] W fun e w' => ∃ c, e = .returned (.slice (some ⟨W.heap.size, 0, none⟩) (runes (bl s)).length c) ∧ (runes (bl s)).length ≤ c ∧ Rd w' w'.heap.size .i32 (some ⟨W.heap.size, 0, none⟩) (runes (bl s)) ∧ Below W.heap.size W w' := by
  obtain ⟨cap, W', hcv, hr, hc, hb⟩ := runes_conv s W h46
  obtain ⟨n, hn⟩ : ∃ n, (runes (bl s)).length = n := ⟨_, rfl⟩
  rw [hn] at hcv hc ⊢
  have Hr := Lib.hid hr
  clear hn hr h46
  go_enter Tryd.func43, Tryd.ntmps43
  go_wp2
  go_ret
  exact ⟨cap, rfl, hc, Hr.out, hb⟩
/-- utf.Encode -/
theorem encodefn_any (r : Int) (W : World) : Calls Tryd.prog 45 #[.int .i32 r] W fun e w' => e = .returned (.string (Utf8.encode r)) ∧ W = w' := by
  go_enter Tryd.func45, Tryd.ntmps45
  go_wp2
  go_ret
  exact ⟨rfl, rfl⟩
theorem neq_fn (p : Value) (f : Nat) (W : World) : (binOp BinOp.neq 51 (.func (.func f) #[] #[p]) .nilFunc).run Tryd.prog W = .ok (.bool true) W := by kernel_rfl
theorem c_dec1 : decU (bl ⟨#[97, 195, 169]⟩) 1 = (233, 2) := by
  show decU [97, 195, 169] ((1 : Nat) : Int) = _
  rw [decodeU_at _ _ (by decide)]
  rfl
theorem c_dec2 : decU (bl ⟨#[195]⟩) 0 = (65533, 1) := by
  show decU [195] ((0 : Nat) : Int) = _
  rw [decodeU_at _ _ (by decide)]
  rfl
theorem c_runes : runes (bl ⟨#[255, 98]⟩) = [65533, 98] := by
  show runes [255, 98] = _
  have e1 : dw [255, 98] = 1 := rfl
  have e2 : dw [98] = 1 := rfl
  unfold runes
  rw [sfx_cons (by decide), e1]
  show [((dc [255, 98] : Nat) : Int)] ++ (sfx [98]).map _ = _
  rw [sfx_cons (by decide), e2]
  show [((dc [255, 98] : Nat) : Int)] ++ ([((dc [98] : Nat) : Int)] ++ (sfx []).map _) = _
  rw [sfx_nil]
  rfl
theorem c_mend : mend (bl ⟨#[255]⟩) (repB ⟨#[63]⟩ true) = [63] := by
  show mend [255] (repB ⟨#[63]⟩ true) = _
  have hi : ill [255] = true := rfl
  have hp : pieces [255] = [([255], 1)] := by
    rw [pieces_ill (by decide) hi]
    show ([255], 1) :: pieces [] = _
    rw [pieces_nil]
  unfold mend mfold
  rw [hp]
  rfl
theorem c_full : fullP (bl ⟨#[97]⟩) = true := rfl
set_option maxHeartbeats 2000000 in
set_option maxRecDepth 1000000 in
theorem works01_any (w : World) (hT : Tabs w) :
    Calls Tryd.prog 36 #[] w fun e w' => e = .returned (.bool true) ∧ Below w.heap.size w w' := by
  have tb : ∀ {W : World}, Below w.heap.size w W → Tabs W := fun h => tabs_below hT h (Nat.le_refl _)
  have c1 := decode_any ⟨#[97, 195, 169]⟩ 1 w hT (by decide)
  rw [c_dec1] at c1
  have c2 := fun W (h : Below w.heap.size w W) => decode_any ⟨#[195]⟩ 0 W (tb h) (by decide)
  rw [c_dec2] at c2
  have c3 := fun W => runesfn_any ⟨#[255, 98]⟩ W (Nat.le_trans (sfx_len _) (by decide))
  rw [c_runes] at c3
  have c4 := fun W => encodefn_any 233 W
  rw [show Utf8.encode 233 = ⟨#[195, 169]⟩ by rfl] at c4
  have c5 := fun W (h : Below w.heap.size w W) => mend_any ⟨#[255]⟩ ⟨#[63]⟩ true W (tb h) (by decide) (by decide) (by decide)
  rw [c_mend] at c5
  have c6 := fun W (h : Below w.heap.size w W) => full_any ⟨#[97]⟩ W (tb h) (by decide)
  rw [c_full] at c6
  have c7 := fun W => allfn_any ⟨#[]⟩ W
  have hneq := neq_fn
  clear tb hT
  go_enter Tryd.func36, Tryd.ntmps36
  go_wp2_with fail
  refine c1.mono ?_
  rintro e w1 ⟨rfl, b1⟩
  go_wp2_with fail
  refine (c2 _ b1).mono ?_
  rintro e w2 ⟨rfl, b2⟩
  have b2 := b1.trans (b2.mono b1.size)
  go_wp2_with fail
  refine (c3 _).mono ?_
  rintro e w3 ⟨cap, rfl, hc, hr, b3⟩
  have b3 := b2.trans (b3.mono b2.size)
  rcases hr with h0 | ⟨ad, he, hl, hcell⟩
  · cases h0
  · injection he with he
    subst he
    have a0 : w3.cell? ⟨w2.heap.size, 0, none⟩ = some (.int .i32 65533) := hcell 0 65533 rfl
    have a1 : w3.cell? ⟨w2.heap.size, 1, none⟩ = some (.int .i32 98) := hcell 1 98 rfl
    clear hcell c1 c2 c3
    go_wp2_with fail
    refine (c4 _).mono ?_
    rintro e w4 ⟨rfl, rfl⟩
    go_wp2_with fail
    refine (c5 _ b3).mono ?_
    rintro e w5 ⟨rfl, b5⟩
    have b5 := b3.trans (b5.mono b3.size)
    go_wp2_with fail
    refine (c6 _ b5).mono ?_
    rintro e w6 ⟨rfl, b6⟩
    have b6 := b5.trans (b6.mono b5.size)
    go_wp2_with fail
    refine (c7 _).mono ?_
    rintro e w7 ⟨rfl, rfl⟩
    go_wp2
    go_ret
    exact ⟨rfl, b6.alloc b6.size _⟩
end Go.Proofs.YtbkimhbpcmbflaaDoor.C
set_option linter.unusedVariables false
set_option linter.unusedSimpArgs false
namespace Go.Proofs.YtbkimhbpcmbflaaDoor.C
open Go Go.RowKit Go.Shelf Go.Proofs.YtbkimhbpcmbflaaDoor.M Go.Proofs.YtbkimhbpcmbflaaDoor.PAll Go.Proofs.YtbkimhbpcmbflaaDoorW.PrintWords
def befU (l : List UInt8) (a : Int) : Int × Int := if a < 1 ∨ (l.length : Int) < a then (65533, 0) else (((Lib.decodeLastL (l.take a.toNat)).1 : Nat), ((Lib.decodeLastL (l.take a.toNat)).2 : Nat))
set_option maxHeartbeats 1000000 in
set_option maxRecDepth 100000 in
/-- utf.Before -/
theorem beforefn_any (s : ByteArray) (a : Int) (w : World) (hT : Tabs w) (hs : s.size ≤ 140737488351232) :
    Calls Tryd.prog 73 #[.string s, .int .i64 a] w fun e w' => e = .returned (.tuple #[.int .i32 (befU (bl s) a).1, .int .i64 (befU (bl s) a).2]) ∧ Below w.heap.size w w' := by
  have hbl := bl_len s
  by_cases h : a < 1 ∨ (s.size : Int) < a
  · have e : befU (bl s) a = (65533, 0) := by unfold befU; rw [hbl, if_pos h]
    rw [e]
    clear e hbl
    by_cases h1 : a < 1
    · clear h
      go_enter Tryd.func73, Tryd.ntmps73
      go_wp2
      go_ret2
      exact ⟨rfl, Below.refl _ _⟩
    · have h2 : (s.size : Int) < a := by omega
      have h1' : 1 ≤ a := by omega
      have h1b : decide (a < 1) = false := by simp; omega
      clear h h1
      go_enter Tryd.func73, Tryd.ntmps73
      go_wp2
      go_ret2
      exact ⟨rfl, Below.refl _ _⟩
  · obtain ⟨p, rfl⟩ : ∃ p : Nat, a = p := ⟨a.toNat, by omega⟩
    have h1 : (1 : Int) ≤ (p : Int) := by omega
    have h2 : (p : Int) ≤ s.size := by omega
    have h1b : decide ((p : Int) < 1) = false := by simp; omega
    have h2b : decide ((s.size : Int) < (p : Int)) = false := by simp; omega
    have e : befU (bl s) (p : Int) = ((((Lib.decodeLastL ((bl s).take p)).1 : Nat) : Int), (((Lib.decodeLastL ((bl s).take p)).2 : Nat) : Int)) := by unfold befU; rw [hbl, if_neg h, Int.toNat_natCast]
    have hx : bl (s.extract 0 p) = (bl s).take p := by rw [bl_cut (by omega), List.drop_zero]
    have cL := Tryd.utf8_DecodeLastRuneInString (s.extract 0 p) w (by simp; omega) hT
    have hx2 : (s.extract 0 p).data.toList = (bl s).take p := hx
    rw [hx2] at cL
    rw [e]
    obtain ⟨c, hc⟩ : ∃ c, (Lib.decodeLastL ((bl s).take p)).1 = c := ⟨_, rfl⟩
    obtain ⟨d, hd⟩ : ∃ d, (Lib.decodeLastL ((bl s).take p)).2 = d := ⟨_, rfl⟩
    rw [hc, hd] at cL ⊢
    clear e hx hx2 hc hd h hbl
    go_enter Tryd.func73, Tryd.ntmps73
    go_wp2_with fail
    refine cL.mono ?_
    rintro e w1 ⟨rfl, hb⟩
    go_wp2
    go_ret2
    exact ⟨rfl, hb⟩
def eb (x : Int) : List UInt8 := (Utf8.encode x).data.toList
def textE (xs : List Int) : List UInt8 := xs.flatMap eb
theorem runesBytes_E : ∀ (xs : List Int) (r : ByteArray), bl (xs.foldl (fun r n => r ++ Utf8.encode n) r) = bl r ++ textE xs
  | [], r => by simp [textE]
  | x :: xs, r => by
    rw [List.foldl_cons, runesBytes_E xs _]
    have e : bl (r ++ Utf8.encode x) = bl r ++ bl (Utf8.encode x) := by unfold bl; simp
    rw [e, List.append_assoc]
    rfl
/-- Go's own conversion of any list of numbers into a text -/
theorem text_convE (W : World) (B : Nat) (A : Option Addr) (cap : Nat) (xs : List Int) (hR : Rd W B .i32 A xs) :
    (convert 22 9 (.slice A xs.length cap)).run Tryd.prog W = .ok (.string ⟨(textE xs).toArray⟩) W := by
  have e0 : runesBytes xs = ⟨(textE xs).toArray⟩ := ba_ext (by
    show bl (runesBytes xs) = textE xs
    unfold runesBytes
    rw [runesBytes_E xs _]
    rfl)
  have key : ∀ x : Addr, (∀ j u, xs[j]? = some u → W.cell? (x.add j) = some (.int .i32 u)) → (convert 22 9 (.slice (some x) xs.length cap)).run Tryd.prog W = .ok (.string ⟨(textE xs).toArray⟩) W := fun x hc => by
    have := run_convert_runes (P := Tryd.prog) W 22 9 21 x xs.length cap xs (Nat.le_refl _) Tryd.underlying22 Tryd.underlying21 Tryd.underlying9 (fun j hj => by
      rw [hc j _ (List.getElem?_eq_getElem hj), List.getD_eq_getElem?_getD, List.getElem?_eq_getElem hj]; rfl)
    rw [List.take_of_length_le (Nat.le_refl _), e0] at this
    exact this
  rcases hR with rfl | ⟨x, rfl, hb, hc⟩
  · cases A with
    | none => exact run_convert_runes_nil (P := Tryd.prog) W 22 9 21 0 cap Tryd.underlying22 Tryd.underlying21 Tryd.underlying9
    | some x => exact key x (fun j u hj => by simp at hj)
  · exact key x hc
/-- utf.Text -/
theorem textfn_any (xs : List Int) (A : Option Addr) (cap : Nat) (W : World) (B : Nat) (hR : Rd W B .i32 A xs) :
    Calls Tryd.prog 47 #[.slice A xs.length cap] W fun e w' => e = .returned (.string ⟨(textE xs).toArray⟩) ∧ Below W.heap.size W w' := by
  have hc := text_convE W B A cap xs hR
  generalize (⟨(textE xs).toArray⟩ : ByteArray) = T at hc ⊢
  generalize xs.length = n at hc ⊢
  clear hR
  go_enter Tryd.func47, Tryd.ntmps47
  go_wp2
  go_ret
  exact ⟨rfl, Below.refl _ _⟩
end Go.Proofs.YtbkimhbpcmbflaaDoor.C
set_option linter.unusedVariables false
set_option linter.unusedSimpArgs false
namespace Go.Proofs.YtbkimhbpcmbflaaDoor.C
open Go Go.RowKit Go.Shelf Go.Proofs.YtbkimhbpcmbflaaDoor.M Go.Proofs.YtbkimhbpcmbflaaDoor.PAll Go.Proofs.YtbkimhbpcmbflaaDoorW.PrintWords
/-- is nothing ill-formed? -/
def okB (l : List UInt8) : Bool := (sfx l).all fun t => !(ill t)
theorem validD_ok (l : List UInt8) : Lib.validD l = okB l := by
  suffices ∀ n (l : List UInt8), l.length ≤ n → Lib.validD l = okB l from this _ l (Nat.le_refl _)
  intro n
  induction n with
  | zero =>
    intro l hl
    obtain rfl : l = [] := List.eq_nil_of_length_eq_zero (by omega)
    rw [Lib.validD_nil]; unfold okB; rw [sfx_nil]; rfl
  | succ n ih =>
    intro l hl
    by_cases hne : l = []
    · subst hne; rw [Lib.validD_nil]; unfold okB; rw [sfx_nil]; rfl
    · have h1 := dw_pos hne
      have h2 : 0 < l.length := List.length_pos_iff.2 hne
      have e : okB l = (!(ill l) && okB (l.drop (dw l))) := by unfold okB; rw [sfx_cons hne]; rfl
      rw [Lib.validD_step l hne, e, ← ih _ (by rw [List.length_drop]; omega)]
      by_cases hi : dc l = 65533 ∧ dw l = 1
      · have hi2 : (Lib.decodeL l).1 = 65533 ∧ (Lib.decodeL l).2 = 1 := hi
        rw [if_pos hi2]; unfold ill; rw [decide_eq_true hi]; rfl
      · have hi2 : ¬ ((Lib.decodeL l).1 = 65533 ∧ (Lib.decodeL l).2 = 1) := hi
        rw [if_neg hi2]; unfold ill; rw [decide_eq_false hi]; rfl
/-- utf.Valid -/
theorem validfn_any (s : ByteArray) (W : World) (hT : Tabs W) (hs : s.size ≤ 140737488351232) :
    Calls Tryd.prog 68 #[.string s] W fun e w' => e = .returned (.bool (okB (bl s))) ∧ Below W.heap.size W w' := by
  have c1 := Tryd.utf8_ValidString s W (by omega) hT
  rw [validD_ok, show s.data.toList = bl s from rfl] at c1
  generalize okB (bl s) = n at c1 ⊢
  go_enter Tryd.func68, Tryd.ntmps68
  go_wp2_with fail
  refine c1.mono ?_
  rintro e w1 ⟨rfl, b1⟩
  go_wp2
  go_ret
  exact ⟨rfl, b1⟩
end Go.Proofs.YtbkimhbpcmbflaaDoor.C
set_option linter.unusedVariables false
set_option linter.unusedSimpArgs false
namespace Go.Proofs.YtbkimhbpcmbflaaDoor.Z
open Go Go.RowKit
section
variable {F : Fence} {n : Nat} {P : Program} {ops : Array Oper} {Q : Exit → Act → World → Prop}
end
end Go.Proofs.YtbkimhbpcmbflaaDoor.Z
set_option linter.unusedVariables false
set_option linter.unusedSimpArgs false
namespace Go.Proofs.YtbkimhbpcmbflaaDoor.C
open Go Go.RowKit Go.Shelf Go.Proofs.YtbkimhbpcmbflaaDoor.M Go.Proofs.YtbkimhbpcmbflaaDoor.PAll Go.Proofs.YtbkimhbpcmbflaaDoor.Z Go.Proofs.YtbkimhbpcmbflaaDoorW.PrintWords
attribute [local go_sem] Oper.semAt_some
theorem Tryd.infoInt : (Tryd.prog.info? 3).map (fun i => (i.zero, i.size, i.bytes)) = some (some (.int .i64 0), 1, 8) := by kernel_rfl
theorem ints_l0 (xs : List Int) (hl : xs.length ≤ 9223372036854775806) : ∀ m i : Nat, i + m = xs.length → glossaryref0_SameInts.l0 (m + 1) xs xs i = some true
  | 0, i, h => by
    unfold glossaryref0_SameInts.l0
    rw [if_neg (by omega)]
  | m + 1, i, h => by
    unfold glossaryref0_SameInts.l0
    rw [if_pos (by omega), if_pos (by omega), if_pos (by omega), if_pos rfl, wi _ (by omega)]
    exact ints_l0 xs hl m (i + 1) (by omega)
theorem ints_ref (xs : List Int) (hl : xs.length ≤ 9223372036854775806) : glossaryref0_SameInts.f (xs.length + 1) xs xs = some true := by
  unfold glossaryref0_SameInts.f
  rw [if_pos rfl]
  exact ints_l0 xs hl xs.length 0 (by omega)
theorem sameints_any (xs : List Int) (hl : xs.length ≤ 1000000) (W : World) (A1 A2 : Option Addr) (c1 c2 : Nat) (h1 : Rd W W.heap.size .i64 A1 xs) (h2 : Rd W W.heap.size .i64 A2 xs) (hc1 : xs.length ≤ c1) (hc2 : xs.length ≤ c2) :
    Calls Tryd.prog 111 #[.slice A1 xs.length c1, .slice A2 xs.length c2] W fun e w' => e = .returned (.bool true) ∧ Below W.heap.size W w' :=
  (glossaryref0_SameInts.calls _ A1 c1 xs A2 c2 xs _ W (C_of h1 (by omega)) hc1 (C_of h2 (by omega)) hc2 (ints_ref xs (by omega))).mono fun e w' ⟨he, hd⟩ => ⟨he, hd.below⟩
set_option maxHeartbeats 1000000 in
theorem unitis_any (s : ByteArray) (a r v : Int) (W : World) (hT : Tabs W) (hs : s.size ≤ 140737488351232) (h : decU (bl s) a = (r, v)) :
    Calls Tryd.prog 72 #[.string s, .int .i64 a, .int .i32 r, .int .i64 v] W fun e w' => e = .returned (.bool true) ∧ Below W.heap.size W w' := by
  have c1 := decode_any s a W hT hs
  rw [h] at c1
  clear h
  go_enter Tryd.func72, Tryd.ntmps72
  go_wp2_with fail
  refine c1.mono ?_
  rintro e w1 ⟨rfl, b1⟩
  go_wp2
  go_ret
  exact ⟨rfl, b1⟩
/-- append of one element in a fence, and where the row lies then -/
theorem wpListIn_append_lies {F : Fence} {n : Nat} {P : Program} (w : World) {ops : Array Oper} {rest : List Oper} {o : Oper} {a : Act} {Q : Exit → Act → World → Prop}
    (hg : o.guard = none) (s x : Operand) (t : TypeId) (hop : o.op = Op.call { callee := Callee.builtin Builtin.append, args := #[s, x], argTypes := #[t, t] })
    (base : Nat) (e : TypeId) (i : TypeInfo) (z : Value) (size bytes : Nat) (h1 : P.underlying t = some (.slice e)) (h2 : P.info? e = some i) (h3 : i.zero = some z) (h4 : i.size = size) (h5 : i.bytes = bytes) (h6 : z.cells.size = size) (h7 : 0 < size)
    (v : Value) (k : Nat) (xs : List Value) (hs : a.eval s = v) (hown : w.ownsRow base e size v k xs) (ad : Addr) (m c : Nat) (news : List Value) (hx : a.eval x = .slice (some ad) m c) (hn : news.length = m * size)
    (hc : ∀ j u, news[j]? = some u → w.cell? (ad.add j) = some u) (h1c : ∀ u ∈ news, u.oneCell' = true) (hm : 0 < m) (b1 : k + m ≤ maxLen) (b2 : (k + m) * bytes ≤ 140737488355328) (b3 : base ≤ w.heap.size)
    (hK : ∀ g cap w', w'.ownsRow base e size (.slice (some ⟨g, 0, none⟩) (k + m) cap) (k + m) (xs ++ news) → w.grownBy w' v.ownBlock → (v.ownBlock = some g ∨ g = w.heap.size) → wpListIn F n P ops Q rest (a.put o.dst (.slice (some ⟨g, 0, none⟩) (k + m) cap)) w') :
    wpListIn F n P ops Q (o :: rest) a w := by
  refine wpListIn_plain hg fun K hK' => ?_
  obtain ⟨g, cap, w', hrun, r1, r2, r3, r4⟩ := run_append_lies (P := P) w t o.type base e i z size bytes h1 h2 h3 h4 h5 h6 h7 v k xs hown ad m c news hn hc h1c hm b1 b2 b3 _ rfl
  unfold Oper.wpIn
  refine ⟨?_, ?_⟩
  · simp [Oper.about, hop, resolve, Target.leads, Sem.run_pure]
  · rw [Oper.semAt_plain F _ _ (by rw [hop]; intro c hc'; cases hc')]
    simp [execOp, hop, resolve, invoke, builtin, hs, hx, hrun, Result.andThen]
    exact hK' _ _ (hK g cap w' r1 r2 r3)
/-- the pieces of a text, as numbers: where, and how many bytes -/
def pflat (l : List UInt8) (ps : List (List UInt8 × Nat)) : List Int := ps.flatMap fun x => [((l.length - x.1.length : Nat) : Int), ((x.2 : Nat) : Int)]
theorem pflat_snoc (l : List UInt8) (ps : List (List UInt8 × Nat)) (x : List UInt8 × Nat) : pflat l (ps ++ [x]) = pflat l ps ++ [((l.length - x.1.length : Nat) : Int)] ++ [((x.2 : Nat) : Int)] := by simp [pflat]
/-- a list of numbers of the call's own, in a cell of its own -/
structure GI (W0 : World) (v : Value) (xs : List Int) (A : World) (ZZ : Nat → Prop) : Prop where
  c : A.cell? ⟨W0.heap.size, 0, none⟩ = some v
  z : A.frozen? ⟨W0.heap.size, 0, none⟩ = false
  row : A.ownsRow (W0.heap.size + 1) 3 1 v xs.length (xs.map (Value.int .i64))
  zz : ∀ k, ZZ k ↔ (k = W0.heap.size ∨ v.ownBlock = some k)
  st : Keeps none' W0 A
  big : W0.heap.size + 1 ≤ A.heap.size
theorem GI.lt {W0 A : World} {v : Value} {xs : List Int} {ZZ : Nat → Prop} (h : GI W0 v xs A ZZ) : ∀ k, ZZ k → k < A.heap.size := fun k z => by
  have := h.big
  rcases (h.zz k).1 z with e | e
  · omega
  · exact (h.row.lt k e).2
theorem GI.keeps {W0 A A' : World} {v : Value} {xs : List Int} {ZZ Y : Nat → Prop} (h : GI W0 v xs A ZZ) (hk : Keeps Y A A') (hy : ∀ k, Y k → ¬ ZZ k ∧ W0.heap.size ≤ k) : GI W0 v xs A' ZZ := by
  have hn : ¬ Y W0.heap.size := fun y => (hy _ y).1 ((h.zz _).2 (.inl rfl))
  exact ⟨hk.cell h.c hn, (frozen_keeps hk (World.block_lt_of_cell? A _ h.c) hn).trans h.z, owns_obj h.row hk (fun g hg y => (hy g y).1 ((h.zz g).2 (.inr hg))), h.zz,
    h.st.trans hk (fun i hi y => by have := (hy i y).2; omega), Nat.le_trans h.big hk.size⟩
/-- behind an append of one number and the store -/
theorem GI.push {W0 A W' : World} {v : Value} {xs : List Int} {ZZ : Nat → Prop} (h : GI W0 v xs A ZZ) (x : Int) {g cap : Nat}
    (hown : W'.ownsRow (W0.heap.size + 1) 3 1 (.slice (some ⟨g, 0, none⟩) (xs.length + 1) cap) (xs.length + 1) (xs.map (Value.int .i64) ++ [.int .i64 x])) (hg : (A.alloc (.cells #[.int .i64 x] 3)).grownBy W' v.ownBlock) (hl : v.ownBlock = some g ∨ g = A.heap.size + 1) :
    W'.cell? ⟨W0.heap.size, 0, none⟩ = some v ∧ W'.frozen? ⟨W0.heap.size, 0, none⟩ = false ∧
    ∃ Z', Step none' ZZ Z' A (W'.setCell ⟨W0.heap.size, 0, none⟩ (.slice (some ⟨g, 0, none⟩) (xs.length + 1) cap)) ∧ GI W0 (.slice (some ⟨g, 0, none⟩) (xs.length + 1) cap) (xs ++ [x]) (W'.setCell ⟨W0.heap.size, 0, none⟩ (.slice (some ⟨g, 0, none⟩) (xs.length + 1) cap)) Z' := by
  have k1 : Keeps none' A (A.alloc (.cells #[.int .i64 x] 3)) := Keeps.alloc _ _ _
  have z1 : (A.alloc (.cells #[.int .i64 x] 3)).heap.size = A.heap.size + 1 := by simp
  have h1 := h.keeps k1 (fun k y => y.elim)
  have k2 : Keeps (fun k => v.ownBlock = some k) (A.alloc (.cells #[.int .i64 x] 3)) W' := Keeps.of_grownBy hg (fun r h => h)
  generalize A.alloc (.cells #[.int .i64 x] 3) = A1 at k1 z1 h1 k2
  have hnP : ¬ v.ownBlock = some W0.heap.size := fun e => by have := (h.row.lt _ e).1; omega
  have c2 := k2.cell h1.c hnP
  have l1 := World.block_lt_of_cell? A1 _ h1.c
  have f2 : W'.frozen? ⟨W0.heap.size, 0, none⟩ = false := (frozen_keeps k2 l1 hnP).trans h1.z
  have k3 : Keeps (fun k => k = W0.heap.size) W' (W'.setCell ⟨W0.heap.size, 0, none⟩ (.slice (some ⟨g, 0, none⟩) (xs.length + 1) cap)) := Keeps.setCell _ _ _ rfl
  have hgb := hown.lt g (by simp [Value.ownBlock])
  have k12 : Keeps (fun k => v.ownBlock = some k) A W' := (k1.mono (Z' := fun k => v.ownBlock = some k) (fun _ _ h => h.elim)).trans k2 (fun _ _ h => h)
  have hk : Keeps (fun k => ZZ k ∨ none' k) A (W'.setCell ⟨W0.heap.size, 0, none⟩ (.slice (some ⟨g, 0, none⟩) (xs.length + 1) cap)) :=
    (k12.mono (Z' := fun k => ZZ k ∨ none' k) (fun k _ e => .inl ((h.zz k).2 (.inr e)))).trans k3 (fun i hi e => .inl ((h.zz i).2 (.inl e)))
  have hgP : g ≠ W0.heap.size := by have := hgb.1; omega
  have hz3 := k3.size
  refine ⟨c2, f2, fun k => k = W0.heap.size ∨ (Value.slice (some ⟨g, 0, none⟩) (xs.length + 1) cap).ownBlock = some k, ⟨hk, fun k z => ?_, fun k z => ?_⟩, ⟨World.cell?_setCell_same' _ _ _ (by rw [c2]; rfl), by rw [World.frozen?_setCell]; exact f2, ?_, fun k => Iff.rfl, ?_, ?_⟩⟩
  · rcases z with e | e
    · exact .inl ((h.zz k).2 (.inl e))
    · have e : g = k := by simpa [Value.ownBlock] using e
      subst e
      rcases hl with hl | hl
      · exact .inl ((h.zz g).2 (.inr hl))
      · exact .inr (by omega)
  · rcases z with e | e
    · have l1' : W0.heap.size < A1.heap.size := l1
      have := k2.size
      omega
    · have e : g = k := by simpa [Value.ownBlock] using e
      have := hgb.2
      omega
  · rw [List.length_append, List.length_singleton, List.map_append, List.map_cons, List.map_nil]
    exact owns_obj hown k3 (fun g' hg' e => by have : g = g' := by simpa [Value.ownBlock] using hg'
                                               omega)
  · refine (h.st.trans k12 (fun i hi e => by have := (h.row.lt i e).1; omega)).trans k3 (fun i hi e => by omega)
  · have := h.big
    have := k12.size
    omega
end Go.Proofs.YtbkimhbpcmbflaaDoor.C
set_option linter.unusedVariables false
set_option linter.unusedSimpArgs false
namespace Go.Proofs.YtbkimhbpcmbflaaDoor.C
open Go Go.RowKit Go.Shelf Go.Proofs.YtbkimhbpcmbflaaDoor.M Go.Proofs.YtbkimhbpcmbflaaDoor.PAll Go.Proofs.YtbkimhbpcmbflaaDoor.Z Go.Proofs.YtbkimhbpcmbflaaDoorW.PrintWords
attribute [local go_sem] Oper.semAt_some
theorem keeps_below {A B : World} (h : Keeps none' A B) : Below A.heap.size A B := h.below (Nat.le_refl _) (fun _ z => z.elim)
theorem pflat_len (l : List UInt8) (ps : List (List UInt8 × Nat)) : (pflat l ps).length = 2 * ps.length := by
  induction ps with
  | nil => rfl
  | cons x ps ih =>
    have e : pflat l (x :: ps) = [((l.length - x.1.length : Nat) : Int), ((x.2 : Nat) : Int)] ++ pflat l ps := rfl
    rw [e, List.length_append, ih, List.length_cons, List.length_cons, List.length_cons, List.length_nil]
    omega
set_option maxRecDepth 100000 in
set_option maxHeartbeats 4000000 in
theorem badis_any (s : ByteArray) (hs : s.size ≤ 100000) (w : World) (hT : Tabs w) (Aw : Option Addr) (cw n : Nat) (hn : (pflat (bl s) (pieces (bl s))).length = n) (hR : Rd w w.heap.size .i64 Aw (pflat (bl s) (pieces (bl s)))) (hcw : n ≤ cw) :
    Calls Tryd.prog 74 #[.string s, .slice Aw n cw] w fun e w' => e = .returned (.bool true) ∧ Below w.heap.size w w' := by
  refine (callsIn_wide (n := 9)).1 ?_
  refine callsIn_of_wp_marks Tryd.func74 rfl trivial ?_
  simp only [Tryd.ntmps74, List.size_toArray, List.length_cons, List.length_nil, Nat.reduceAdd, Nat.reduceSub, Array.replicate_succ, Array.replicate_zero, List.push_toArray, List.append_toArray, List.nil_append, List.cons_append]
  have hbl := bl_len s
  have cnt := pieces_count (bl s)
  rw [hbl] at cnt
  obtain ⟨i0, hi, hz0, hz1, hz2⟩ := info_parts Tryd.infoInt
  have cB := fun W => callsIn_wide (n := 8).2 (badfn_any s W)
  have Htab := Lib.hid hT
  have Hbl := Lib.hid hbl
  have HR := Lib.hid hR
  have Hn := Lib.hid hn
  have hTlt : ∀ k, tabB k → k < w.heap.size := fun k tk => by
    rcases tk with rfl | rfl
    · exact cell_blk (hT.1 0 (by decide))
    · exact cell_blk (hT.2 0 (by decide)).1
  have HTlt := Lib.hid hTlt
  clear hT hbl hR hn hTlt
  gi_wp2_with fail
  obtain ⟨W1, hW1⟩ : ∃ W1, w.alloc (.cells #[.slice none 0 0] 64) = W1 := ⟨_, rfl⟩
  have q1 := cell_new_l w (.slice none 0 0) 64
  have z1 : W1.heap.size = w.heap.size + 1 := by rw [← hW1]; simp
  have k1 : Keeps none' w W1 := by rw [← hW1]; exact Keeps.alloc _ _ _
  rw [hW1] at q1 ⊢
  refine ⟨trivial, (cB _).mono ?_⟩
  rintro e w' ⟨rfl, rfl⟩
  obtain ⟨W2, hW2⟩ : ∃ W2, W1.alloc (.cells #[.string s] 9) = W2 := ⟨_, rfl⟩
  have q2 := cell_new_l W1 (.string s) 9
  have z2 : W2.heap.size = w.heap.size + 2 := by rw [← hW2]; simp; omega
  have k2 : Keeps none' W1 W2 := by rw [← hW2]; exact Keeps.alloc _ _ _
  rw [hW2, z1] at q2
  rw [hW2, z1]
  have nn : ∀ {A B C : World}, Keeps none' A B → Keeps none' B C → Keeps none' A C := fun h k => h.trans k (fun _ _ h => h)
  have k02 := nn k1 k2
  have hI0 : GI w (.slice none 0 0) (pflat (bl s) []) W2 (fun k => k = w.heap.size ∨ (Value.slice none 0 0).ownBlock = some k) :=
    ⟨k2.cell q1.1 (fun h => h), (frozen_keeps k2 (World.block_lt_of_cell? W1 _ q1.1) (fun h => h)).trans q1.2, World.ownsRow_nil _ _ _ _, fun k => Iff.rfl, k02, by omega⟩
  have hs5 := q2.1
  clear hW1 hW2 q1 q2 k1 k2 cB
  gi_wp2_with fail
  refine range_out (gf := 87) (lb := #[.pointer (some ⟨w.heap.size + 1, 0, none⟩)]) (by first | rfl | (simp [go_sem]; done)) (enters_of Tryd.func87 (by kernel_rfl) rfl) (bad_seq (w.heap.size + 1) s (by omega)) (fun _ => rfl)
    (fun pre A ZZ => pre <+: pieces (bl s) ∧ ∃ v, GI w v (pflat (bl s) pre) A ZZ)
    (fun _ _ _ _ => False)
    (fun k => k = w.heap.size ∨ (Value.slice none 0 0).ownBlock = some k) ?hZ ?hRd ?hRb ?hI ?hIx ?hround ⟨⟨_, rfl⟩, _, hI0⟩ ?hdone ?hstop
  case hZ => exact hI0.lt
  case hRd => exact fun W' hk => ⟨hk.cell hs5 (fun h => h), Htab.out.keeps (nn k02 hk) (fun _ _ h => h)⟩
  case hRb =>
    rintro k (rfl | tk)
    · exact ⟨by omega, fun z => by rcases z with z | z; · omega
                                   · simp [Value.ownBlock] at z⟩
    · have := HTlt.out k tk
      exact ⟨by omega, fun z => by rcases z with z | z; · omega
                                   · simp [Value.ownBlock] at z⟩
  case hI =>
    rintro pre A B Y ZZ ⟨h1, v, h⟩ hk hy
    exact ⟨h1, v, h.keeps hk (fun k y => ⟨(hy k y).1, by have := (hy k y).2; omega⟩)⟩
  case hIx => exact fun c pre A B Y ZZ h _ _ => h.elim
  case hround =>
    rintro l2 pre x A ZZ hl2 hzl hrec ⟨hp, v, h⟩ hzz hB hpre
    have hpc : pre.length + 1 ≤ s.size := by
      have h1 := hpre.length_le
      simp at h1
      omega
    have hpl : (pflat (bl s) pre).length ≤ 200000 := by rw [pflat_len]; omega
    have hsn := pflat_snoc (bl s) pre x
    rw [Hbl.out] at hsn
    obtain ⟨f, hf⟩ : ∃ f, s.size - x.1.length = f := ⟨_, rfl⟩
    obtain ⟨d, hd⟩ : ∃ d, x.2 = d := ⟨_, rfl⟩
    obtain ⟨xs, hxs⟩ : ∃ xs, pflat (bl s) pre = xs := ⟨_, rfl⟩
    simp only [encB]
    rw [hf, hd]
    rw [hf, hd, hxs] at hsn
    rw [hxs] at h hpl
    have Hsn := Lib.hid hsn
    clear hf hd hxs hsn
    gi_wp2
    refine ⟨Keeps.refl _ _, ?_⟩
    intro A2 hk2
    intros
    have hm2 := h.keeps hk2 (fun k y => by subst y; exact ⟨hzl, by omega⟩)
    have hr1 := (hm2.keeps (Keeps.alloc none' A2 (.cells #[.int .i64 (f : Nat)] 3)) (fun k y => y.elim)).row
    have e1 := (hm2.keeps (Keeps.alloc none' A2 (.cells #[.int .i64 (f : Nat)] 3)) (fun k y => y.elim)).c
    have e0 := hm2.c
    have hb2 := hm2.big
    have za : (A2.alloc (.cells #[.int .i64 (f : Nat)] 3)).heap.size = A2.heap.size + 1 := by simp
    have HM2 := Lib.hid hm2
    clear h hk2 hl2 hrec hzz hm2
    gi_wp2_with (first
      | (gi_at_builtin; refine wpListIn_append_lies _ rfl (.tmp 12) (.tmp 14) 64 rfl (w.heap.size + 1) 3 i0 (.int .i64 0) 1 8 Tryd.underlying64 hi hz0 hz1 hz2 rfl (by decide) v xs.length (xs.map (Value.int .i64)) (by simp [Act.eval]) hr1 ⟨A2.heap.size, 0, none⟩ 1 1 [.int .i64 (f : Nat)] (by simp [Act.eval]) rfl (cell_one_new _ _ _) (by intro u hu; rw [List.mem_singleton.1 hu]; rfl) (by decide) (by unfold maxLen; omega) (by omega) (by omega) ?_; intro g3 c3 W3 hown3 hgr3 hl3; obtain ⟨e3, z3, Z3, st3, m3⟩ := HM2.out.push (f : Nat) hown3 hgr3 (by rw [za] at hl3; exact hl3); clear hown3 hgr3 hl3;
          have hr2 := (m3.keeps (Keeps.alloc none' _ (.cells #[.int .i64 (d : Nat)] 3)) (fun k y => y.elim)).row; have e4 := (m3.keeps (Keeps.alloc none' _ (.cells #[.int .i64 (d : Nat)] 3)) (fun k y => y.elim)).c; rw [List.length_append, List.length_singleton] at hr2; have e5 := m3.c; have hb3 := m3.big; have hsx : (W3.setCell ⟨w.heap.size, 0, none⟩ (.slice (some ⟨g3, 0, none⟩) (xs.length + 1) c3)).heap.size = W3.heap.size := World.size_setCell _ _ _; rw [hsx] at hb3; have HM3 := Lib.hid m3; have ST3 := Lib.hid st3; clear m3 st3)
      | (gi_at_builtin; refine wpListIn_append_lies _ rfl (.tmp 16) (.tmp 18) 64 rfl (w.heap.size + 1) 3 i0 (.int .i64 0) 1 8 Tryd.underlying64 hi hz0 hz1 hz2 rfl (by decide) (.slice (some ⟨g3, 0, none⟩) (xs.length + 1) c3) (xs.length + 1) ((xs ++ [(f : Int)]).map (Value.int .i64)) (by simp [Act.eval]) hr2 ⟨W3.heap.size, 0, none⟩ 1 1 [.int .i64 (d : Nat)] (by simp [Act.eval]) rfl (by rw [← hsx]; exact cell_one_new _ _ _) (by intro u hu; rw [List.mem_singleton.1 hu]; rfl) (by decide) (by unfold maxLen; omega) (by omega) (by simp; omega) ?_; intro g4 c4 W4 hown4 hgr4 hl4;
          have hl' : (xs ++ [(f : Int)]).length = xs.length + 1 := List.length_append; have P6 := HM3.out.push (d : Nat) (g := g4) (cap := c4) (W' := W4) (by rw [hl']; exact hown4) hgr4 (hl4.elim Or.inl (fun h => .inr (by rw [h]; simp))); rw [hl'] at P6; obtain ⟨e6, z6, Z6, st6, m6⟩ := P6; have HM6 := Lib.hid m6; have ST6 := Lib.hid st6; clear hown4 hgr4 hl4 m6 st6 hl'))
    exact ⟨Z6, ST3.out.trans ST6.out, hpre, _, by rw [Hsn.out]; exact HM6.out⟩
  case hstop => intros; contradiction
  case hdone =>
    rintro D W' Z' hD hzD hst ⟨_, v, h⟩ hd
    have hrow := h.row
    rw [Hn.out] at hrow
    obtain ⟨A1, c1, rfl, hc1, hr1⟩ : ∃ A1 c1, v = .slice A1 n c1 ∧ n ≤ c1 ∧ Rd W' W'.heap.size .i64 A1 (pflat (bl s) (pieces (bl s))) := by
      have hrow0 := hrow
      rcases hrow.2 with ⟨rfl, e⟩ | ⟨g, cap, cur, rfl, hb, hg, hc, _⟩
      · have e0 : pflat (bl s) (pieces (bl s)) = [] := List.eq_nil_of_length_eq_zero (by rw [Hn.out]; exact e)
        exact ⟨none, 0, by rw [e], by omega, .inl e0⟩
      · exact ⟨_, cap, rfl, hc, .inr ⟨⟨g, 0, none⟩, rfl, lt_of_obj hg, fun j u hj => hrow0.cells (g := g) rfl j (.int .i64 u) (by rw [List.getElem?_map, hj]; rfl)⟩⟩
    have hkB := keeps_below h.st
    have cS := sameints_any _ (by rw [Hn.out]; have := pflat_len (bl s) (pieces (bl s)); rw [Hn.out] at this; omega) W' A1 Aw c1 cw hr1 ((HR.out.below hkB (Nat.le_refl _)).more hkB.size) (by rw [Hn.out]; exact hc1) (by rw [Hn.out]; exact hcw)
    rw [Hn.out] at cS
    have e1 := h.c
    have hwD : w.heap.size ≤ D := by omega
    have Hd := Lib.hid hd
    clear h hst hrow hr1 hd
    gi_wp2_with fail
    refine ⟨trivial, (callsIn_wide (n := 8).2 cS).mono ?_⟩
    rintro e W3 ⟨rfl, b3⟩
    have hd3 := (Keeps.of_below0 b3).obj Hd.out (fun h => h)
    have bF := hkB.trans (b3.mono hkB.size)
    clear cS b3
    gi_wp2
    refine ⟨by simp, .inl ⟨_, _, rfl, run_takeDeferred hd3, ?_⟩⟩
    exact ⟨_, results_tmp rfl _ _ _, rfl, bF.trans (belowK_b (w := w) (Nat.le_refl _) W3 D _ _ hwD hd3 rfl rfl)⟩
end Go.Proofs.YtbkimhbpcmbflaaDoor.C
set_option linter.unusedVariables false
set_option linter.unusedSimpArgs false
namespace Go.Proofs.YtbkimhbpcmbflaaDoor.C
open Go Go.RowKit Go.Shelf Go.Proofs.YtbkimhbpcmbflaaDoor.M Go.Proofs.YtbkimhbpcmbflaaDoor.PAll Go.Proofs.YtbkimhbpcmbflaaDoor.Z Go.Proofs.YtbkimhbpcmbflaaDoorW.PrintWords
/-- the pieces, by counting -/
def piecesF : Nat → List UInt8 → List (List UInt8 × Nat)
  | 0, _ => []
  | n + 1, l => match l with
    | [] => []
    | a :: r => match ill (a :: r) with
      | true => (a :: r, pl (a :: r)) :: piecesF n ((a :: r).drop (pl (a :: r)))
      | false => piecesF n ((a :: r).drop (dw (a :: r)))
theorem pieces_F : ∀ n (l : List UInt8), l.length ≤ n → pieces l = piecesF n l
  | 0, l, h => by
    obtain rfl : l = [] := List.eq_nil_of_length_eq_zero (by omega)
    rw [pieces_nil]; rfl
  | n + 1, [], h => by rw [pieces_nil]; rfl
  | n + 1, a :: r, h => by
    have hne : a :: r ≠ [] := by simp
    unfold piecesF
    simp only
    cases hi : ill (a :: r) with
    | true =>
      have := pl_pos (a :: r)
      rw [pieces_ill hne hi, pieces_F n _ (by rw [List.length_drop]; omega)]
    | false =>
      have := dw_pos hne
      rw [pieces_ok hne hi, pieces_F n _ (by rw [List.length_drop]; omega)]
theorem dec_in {l : List UInt8} {p : Nat} {r v : Nat} (h : p < l.length) (h1 : dc (l.drop p) = r) (h2 : dw (l.drop p) = v) : decU l (p : Int) = ((r : Int), (v : Int)) := by
  rw [decodeU_at l p h, h1, h2]
theorem one_dec : ∀ c, c < 256 → dc [UInt8.ofNat c] = (if c < 128 then c else 65533) ∧ dw [UInt8.ofNat c] = 1 := by decide +kernel
theorem one_full : ∀ c, c < 256 → fullP [UInt8.ofNat c] = !(decide (194 ≤ c ∧ c ≤ 244)) := by decide +kernel
theorem one_ill : ∀ c, c < 256 → ill [UInt8.ofNat c] = !(decide (c < 128)) := by decide +kernel
theorem u1 : decU (bl ⟨#[97, 195, 169]⟩) 2 = (65533, 1) := dec_in (l := [97, 195, 169]) (p := 2) (by decide) rfl rfl
theorem u2 : decU (bl ⟨#[97]⟩) 1 = (65533, 0) := by unfold decU; rw [if_pos (by decide)]
theorem u3 : decU (bl ⟨#[97]⟩) (-1) = (65533, 0) := by unfold decU; rw [if_pos (by decide)]
theorem u4 : decU (bl ⟨#[239, 191, 189]⟩) 0 = (65533, 3) := dec_in (l := [239, 191, 189]) (p := 0) (by decide) rfl rfl
theorem u5 : decU (bl ⟨#[237, 160, 128]⟩) 0 = (65533, 1) := dec_in (l := [237, 160, 128]) (p := 0) (by decide) rfl rfl
theorem u6 : decU (bl ⟨#[192, 128]⟩) 0 = (65533, 1) := dec_in (l := [192, 128]) (p := 0) (by decide) rfl rfl
theorem u7 : decU (bl ⟨#[244, 144, 128, 128]⟩) 0 = (65533, 1) := dec_in (l := [244, 144, 128, 128]) (p := 0) (by decide) rfl rfl
theorem u8 : decU (bl ⟨#[240, 159, 152, 128]⟩) 0 = (128512, 4) := dec_in (l := [240, 159, 152, 128]) (p := 0) (by decide) rfl rfl
theorem u9 : decU (bl ⟨#[244, 143, 191, 191]⟩) 0 = (1114111, 4) := dec_in (l := [244, 143, 191, 191]) (p := 0) (by decide) rfl rfl
theorem u10 : decU (bl ⟨#[237, 159, 191]⟩) 0 = (55295, 3) := dec_in (l := [237, 159, 191]) (p := 0) (by decide) rfl rfl
theorem u11 : decU (bl ⟨#[238, 128, 128]⟩) 0 = (57344, 3) := dec_in (l := [238, 128, 128]) (p := 0) (by decide) rfl rfl
theorem u12 : decU (bl ⟨#[224, 160, 128]⟩) 0 = (2048, 3) := dec_in (l := [224, 160, 128]) (p := 0) (by decide) rfl rfl
theorem u13 : decU (bl ⟨#[224, 159, 191]⟩) 0 = (65533, 1) := dec_in (l := [224, 159, 191]) (p := 0) (by decide) rfl rfl
theorem u14 : decU (bl ⟨#[240, 144, 128, 128]⟩) 0 = (65536, 4) := dec_in (l := [240, 144, 128, 128]) (p := 0) (by decide) rfl rfl
theorem u15 : decU (bl ⟨#[240, 143, 191, 191]⟩) 0 = (65533, 1) := dec_in (l := [240, 143, 191, 191]) (p := 0) (by decide) rfl rfl
theorem u16 : decU (bl ⟨#[194, 128]⟩) 0 = (128, 2) := dec_in (l := [194, 128]) (p := 0) (by decide) rfl rfl
theorem u17 : decU (bl ⟨#[223, 191]⟩) 0 = (2047, 2) := dec_in (l := [223, 191]) (p := 0) (by decide) rfl rfl
theorem u18 : decU (bl ⟨#[245, 128, 128, 128]⟩) 0 = (65533, 1) := dec_in (l := [245, 128, 128, 128]) (p := 0) (by decide) rfl rfl
theorem bef_in {l : List UInt8} {p : Nat} {r v : Nat} (h : 1 ≤ p ∧ p ≤ l.length) (h1 : (Lib.decodeLastL (l.take p)).1 = r) (h2 : (Lib.decodeLastL (l.take p)).2 = v) : befU l (p : Int) = ((r : Int), (v : Int)) := by
  unfold befU
  rw [if_neg (by omega), Int.toNat_natCast, h1, h2]
theorem v1 : befU (bl ⟨#[97, 195, 169]⟩) 3 = (233, 2) := bef_in (l := [97, 195, 169]) (p := 3) (by decide) (by decide +kernel) (by decide +kernel)
theorem v2 : befU (bl ⟨#[97, 195, 169]⟩) 2 = (65533, 1) := bef_in (l := [97, 195, 169]) (p := 2) (by decide) (by decide +kernel) (by decide +kernel)
theorem v3 : befU (bl ⟨#[97]⟩) 0 = (65533, 0) := by unfold befU; rw [if_pos (by decide)]
theorem v4 : befU (bl ⟨#[97]⟩) 2 = (65533, 0) := by unfold befU; rw [if_pos (by decide)]
theorem g1 : pflat (bl ⟨#[97, 226, 130, 98, 195]⟩) (pieces (bl ⟨#[97, 226, 130, 98, 195]⟩)) = [1, 2, 4, 1] := by
  rw [pieces_F 5 _ (by decide)]; rfl
theorem g2 : pflat (bl ⟨#[240, 159, 152, 240, 159]⟩) (pieces (bl ⟨#[240, 159, 152, 240, 159]⟩)) = [0, 3, 3, 2] := by
  rw [pieces_F 5 _ (by decide)]; rfl
theorem g3 : pflat (bl ⟨#[237, 160, 128]⟩) (pieces (bl ⟨#[237, 160, 128]⟩)) = [0, 1, 1, 1, 2, 1] := by
  rw [pieces_F 3 _ (by decide)]; rfl
theorem g4 : pflat (bl ⟨#[244, 144]⟩) (pieces (bl ⟨#[244, 144]⟩)) = [0, 1, 1, 1] := by
  rw [pieces_F 2 _ (by decide)]; rfl
theorem g5 : pflat (bl ⟨#[128, 128]⟩) (pieces (bl ⟨#[128, 128]⟩)) = [0, 1, 1, 1] := by
  rw [pieces_F 2 _ (by decide)]; rfl
theorem g6 : pflat (bl ⟨#[195, 169]⟩) (pieces (bl ⟨#[195, 169]⟩)) = [] := by
  rw [pieces_F 2 _ (by decide)]; rfl
theorem g7 : pflat (bl ⟨#[225, 128, 195, 169]⟩) (pieces (bl ⟨#[225, 128, 195, 169]⟩)) = [0, 2] := by
  rw [pieces_F 4 _ (by decide)]; rfl
theorem m1 : mend (bl ⟨#[97, 226, 130, 98]⟩) (repB ⟨#[63]⟩ true) = [97, 63, 98] := by
  unfold mend mfold
  rw [pieces_F 4 _ (by decide)]; rfl
theorem m2 : mend (bl ⟨#[97, 226, 130, 98]⟩) (repB ⟨#[63]⟩ false) = [97, 63, 63, 98] := by
  unfold mend mfold
  rw [pieces_F 4 _ (by decide)]; rfl
theorem m3 : mend (bl ⟨#[195]⟩) (repB ⟨#[169]⟩ true) = [169] := by
  unfold mend mfold
  rw [pieces_F 1 _ (by decide)]; rfl
theorem e1 : Utf8.encode 0 = ⟨#[0]⟩ := by decide +kernel
theorem e2 : Utf8.encode 1114111 = ⟨#[244, 143, 191, 191]⟩ := by decide +kernel
theorem e3 : Utf8.encode 55295 = ⟨#[237, 159, 191]⟩ := by decide +kernel
theorem e4 : textE [97, 55296, 233] = [97, 239, 191, 189, 195, 169] := by decide +kernel
theorem odd_enc : ∀ x ∈ ([-1, 55296, 57343, 1114112, 2147483647, -2147483648] : List Int), Utf8.encode x = ⟨#[239, 191, 189]⟩ := by decide +kernel
end Go.Proofs.YtbkimhbpcmbflaaDoor.C
set_option linter.unusedVariables false
set_option linter.unusedSimpArgs false
namespace Go.Proofs.YtbkimhbpcmbflaaDoor.C
open Go Go.RowKit Go.Shelf Go.Proofs.YtbkimhbpcmbflaaDoor.M Go.Proofs.YtbkimhbpcmbflaaDoor.PAll Go.Proofs.YtbkimhbpcmbflaaDoor.Z Go.Proofs.YtbkimhbpcmbflaaDoorW.PrintWords
attribute [local go_sem] Oper.semAt_some
/-- the world, as the whole statement knows it -/
structure KW (w W : World) : Prop where
  bel : Below w.heap.size w W
  tabs : Tabs W
theorem KW.next {w W W' : World} (h : KW w W) (hb : Below W.heap.size W W') : KW w W' := ⟨h.bel.trans (hb.mono h.bel.size), tabs_below h.tabs hb (Nat.le_refl _)⟩
theorem kunit {w W : World} (h : KW w W) (s : ByteArray) (a r v : Int) (hs : s.size ≤ 100) (hd : decU (bl s) a = (r, v)) : Calls Tryd.prog 72 #[.string s, .int .i64 a, .int .i32 r, .int .i64 v] W fun e w' => e = .returned (.bool true) ∧ KW w w' :=
  (unitis_any s a r v W h.tabs (by omega) hd).mono fun e w' ⟨he, hb⟩ => ⟨he, h.next hb⟩
theorem kdec {w W : World} (h : KW w W) (s : ByteArray) (a r v : Int) (hs : s.size ≤ 100) (hd : decU (bl s) a = (r, v)) : Calls Tryd.prog 71 #[.string s, .int .i64 a] W fun e w' => e = .returned (.tuple #[.int .i32 r, .int .i64 v]) ∧ KW w w' := by
  have c := decode_any s a W h.tabs (by omega)
  rw [hd] at c
  exact c.mono fun e w' ⟨he, hb⟩ => ⟨he, h.next hb⟩
theorem kbef {w W : World} (h : KW w W) (s : ByteArray) (a r v : Int) (hs : s.size ≤ 100) (hd : befU (bl s) a = (r, v)) : Calls Tryd.prog 73 #[.string s, .int .i64 a] W fun e w' => e = .returned (.tuple #[.int .i32 r, .int .i64 v]) ∧ KW w w' := by
  have c := beforefn_any s a W h.tabs (by omega)
  rw [hd] at c
  exact c.mono fun e w' ⟨he, hb⟩ => ⟨he, h.next hb⟩
theorem kfull {w W : World} (h : KW w W) (s : ByteArray) (b : Bool) (hs : s.size ≤ 100) (hd : fullP (bl s) = b) : Calls Tryd.prog 34 #[.string s] W fun e w' => e = .returned (.bool b) ∧ KW w w' := by
  have c := full_any s W h.tabs (by omega)
  rw [hd] at c
  exact c.mono fun e w' ⟨he, hb⟩ => ⟨he, h.next hb⟩
theorem kvalid {w W : World} (h : KW w W) (s : ByteArray) (b : Bool) (hs : s.size ≤ 100) (hd : okB (bl s) = b) : Calls Tryd.prog 68 #[.string s] W fun e w' => e = .returned (.bool b) ∧ KW w w' := by
  have c := validfn_any s W h.tabs (by omega)
  rw [hd] at c
  exact c.mono fun e w' ⟨he, hb⟩ => ⟨he, h.next hb⟩
theorem kmend {w W : World} (h : KW w W) (s t : ByteArray) (b : Bool) (r : ByteArray) (hs : s.size ≤ 100) (ht : t.size ≤ 10) (hd : (⟨(mend (bl s) (repB t b)).toArray⟩ : ByteArray) = r) : Calls Tryd.prog 40 #[.string s, .string t, .bool b] W fun e w' => e = .returned (.string r) ∧ KW w w' := by
  have hm : s.size * (3 * t.size) ≤ 100 * 30 := Nat.mul_le_mul hs (by omega)
  have c := mend_any s t b W h.tabs (by omega) (by omega) (by omega)
  rw [hd] at c
  exact c.mono fun e w' ⟨he, hb⟩ => ⟨he, h.next hb⟩
theorem rd_alloc (W : World) (k : IntKind) (xs : List Int) (C : Array Value) (T : TypeId) (hC : C = (xs.map (Value.int k)).toArray) : Rd (W.alloc (.cells C T)) (W.alloc (.cells C T)).heap.size k (some ⟨W.heap.size, 0, none⟩) xs := by
  subst hC
  refine .inr ⟨_, rfl, by show W.heap.size < (W.heap.push _).size; rw [Array.size_push]; omega, fun j u hj => ?_⟩
  have e : (⟨W.heap.size, 0, none⟩ : Addr).add j = ⟨W.heap.size, j, none⟩ := by
    simp [Addr.add]
    exact fun h => h.symm
  rw [e, cell_of_row _ _ _ _ _ _ (heap_alloc_new W _)]
  simp [hj]
theorem ktext {w W : World} (h : KW w W) (xs : List Int) (C : Array Value) (T : TypeId) (n : Nat) (t : ByteArray) (hC : C = (xs.map (Value.int .i32)).toArray) (hn : xs.length = n) (ht : (⟨(textE xs).toArray⟩ : ByteArray) = t) : Calls Tryd.prog 47 #[.slice (some ⟨W.heap.size, 0, none⟩) n n] (W.alloc (.cells C T)) fun e w' => e = .returned (.string t) ∧ KW w w' := by
  have c := textfn_any xs _ n _ _ (rd_alloc W .i32 xs C T hC)
  rw [hn, ht] at c
  exact c.mono fun e w' ⟨he, hb⟩ => ⟨he, (h.next ((Below.refl _ _).alloc (Nat.le_refl _) _)).next hb⟩
theorem kbads {w W : World} (h : KW w W) (s : ByteArray) (xs : List Int) (C : Array Value) (T : TypeId) (n : Nat) (hs : s.size ≤ 100) (hC : C = (xs.map (Value.int .i64)).toArray) (hn : xs.length = n) (ht : pflat (bl s) (pieces (bl s)) = xs) : Calls Tryd.prog 74 #[.string s, .slice (some ⟨W.heap.size, 0, none⟩) n n] (W.alloc (.cells C T)) fun e w' => e = .returned (.bool true) ∧ KW w w' := by
  have k1 := h.next ((Below.refl _ _).alloc (Nat.le_refl _) (.cells C T))
  have c := badis_any s (by omega) (W.alloc (.cells C T)) k1.tabs (some ⟨W.heap.size, 0, none⟩) n n (by rw [ht, hn]) (by rw [ht]; exact rd_alloc W .i64 xs C T hC) (Nat.le_refl _)
  exact c.mono fun e w' ⟨he, hb⟩ => ⟨he, k1.next hb⟩
theorem kbad0 {w W : World} (h : KW w W) (s : ByteArray) (hs : s.size ≤ 100) (ht : pflat (bl s) (pieces (bl s)) = []) : Calls Tryd.prog 74 #[.string s, .slice none 0 0] W fun e w' => e = .returned (.bool true) ∧ KW w w' := by
  have c := badis_any s (by omega) W h.tabs none 0 0 (by rw [ht]; rfl) (by rw [ht]; exact .inl rfl) (Nat.le_refl _)
  exact c.mono fun e w' ⟨he, hb⟩ => ⟨he, h.next hb⟩
def one_dr (c : Nat) : Int := ((if c < 128 then c else 65533 : Nat) : Int)
theorem one_decU (c : Nat) (hc : c < 256) : decU (bl ⟨#[UInt8.ofNat c]⟩) 0 = (one_dr c, 1) := dec_in (l := [UInt8.ofNat c]) (p := 0) (by show 0 < 1; omega) (one_dec c hc).1 (one_dec c hc).2
set_option maxRecDepth 10000 in
theorem one_okB (c : Nat) (hc : c < 256) : okB [UInt8.ofNat c] = decide (c < 128) := by
  have h : sfx [UInt8.ofNat c] = [[UInt8.ofNat c]] := by
    rw [sfx, dif_neg (by simp), (one_dec c hc).2]
    show [UInt8.ofNat c] :: sfx [] = _
    rw [sfx, dif_pos rfl]
  unfold okB
  rw [h, List.all_cons, one_ill c hc, Bool.not_not, List.all_nil, Bool.and_true]
theorem one_conv (c : Nat) (hc : c < 256) (W : World) : (convert 72 9 (.slice (some ⟨W.heap.size, 0, none⟩) 1 1)).run Tryd.prog (W.alloc (.cells #[.int .u8 c] 5)) = .ok (.string ⟨#[UInt8.ofNat c]⟩) (W.alloc (.cells #[.int .u8 c] 5)) :=
  run_convert_bytes_back (P := Tryd.prog) _ _ _ 5 ⟨W.heap.size, 0, none⟩ 1 [UInt8.ofNat c] Tryd.underlying72 Tryd.underlying5 Tryd.underlying9 (fun j hj => by
    have hj0 : j = 0 := by simpa using hj
    subst hj0
    have e : ([UInt8.ofNat c][0]).toNat = c := by simp; omega
    rw [e]
    exact cell_of_row _ _ _ _ _ _ (heap_alloc_new W _))
set_option maxRecDepth 100000 in
set_option maxHeartbeats 8000000 in
theorem law_UtfKnown (w : World) (hT : Lib.Utf8Tabs 0 1 w) :
    Calls Tryd.prog 22 #[] w fun e w' => e = .returned (.bool true) ∧ Below w.heap.size w w' := by
  have k0 : KW w w := ⟨Below.refl _ _, hT⟩
  have cW := works01_any w hT
  clear hT
  go_enter Tryd.func22, Tryd.ntmps22
  go_wp2_with fail
  refine cW.mono ?_
  rintro e W0 ⟨rfl, b0⟩
  have k := k0.next b0
  clear cW k0 b0
  go_wp2_with fail
  refine (kunit k ⟨#[97, 195, 169]⟩ 2 65533 1 (by decide) u1).mono ?_
  clear k
  rintro e w1 ⟨rfl, k⟩
  go_wp2_with fail
  refine (kunit k ⟨#[97]⟩ 1 65533 0 (by decide) u2).mono ?_
  clear k
  rintro e w2 ⟨rfl, k⟩
  go_wp2_with fail
  refine (kunit k ⟨#[97]⟩ (-1) 65533 0 (by decide) u3).mono ?_
  clear k
  rintro e w3 ⟨rfl, k⟩
  go_wp2_with fail
  refine (kunit k ⟨#[239, 191, 189]⟩ 0 65533 3 (by decide) u4).mono ?_
  clear k
  rintro e w4 ⟨rfl, k⟩
  go_wp2_with fail
  refine (kunit k ⟨#[237, 160, 128]⟩ 0 65533 1 (by decide) u5).mono ?_
  clear k
  rintro e w5 ⟨rfl, k⟩
  go_wp2_with fail
  refine (kunit k ⟨#[192, 128]⟩ 0 65533 1 (by decide) u6).mono ?_
  clear k
  rintro e w6 ⟨rfl, k⟩
  go_wp2_with fail
  refine (kunit k ⟨#[244, 144, 128, 128]⟩ 0 65533 1 (by decide) u7).mono ?_
  clear k
  rintro e w7 ⟨rfl, k⟩
  go_wp2_with fail
  refine (kunit k ⟨#[240, 159, 152, 128]⟩ 0 128512 4 (by decide) u8).mono ?_
  clear k
  rintro e w8 ⟨rfl, k⟩
  go_wp2_with fail
  refine (kunit k ⟨#[244, 143, 191, 191]⟩ 0 1114111 4 (by decide) u9).mono ?_
  clear k
  rintro e w9 ⟨rfl, k⟩
  go_wp2_with fail
  refine (kunit k ⟨#[237, 159, 191]⟩ 0 55295 3 (by decide) u10).mono ?_
  clear k
  rintro e w10 ⟨rfl, k⟩
  go_wp2_with fail
  refine (kunit k ⟨#[238, 128, 128]⟩ 0 57344 3 (by decide) u11).mono ?_
  clear k
  rintro e w11 ⟨rfl, k⟩
  go_wp2_with fail
  refine (kunit k ⟨#[224, 160, 128]⟩ 0 2048 3 (by decide) u12).mono ?_
  clear k
  rintro e w12 ⟨rfl, k⟩
  go_wp2_with fail
  refine (kunit k ⟨#[224, 159, 191]⟩ 0 65533 1 (by decide) u13).mono ?_
  clear k
  rintro e w13 ⟨rfl, k⟩
  go_wp2_with fail
  refine (kunit k ⟨#[240, 144, 128, 128]⟩ 0 65536 4 (by decide) u14).mono ?_
  clear k
  rintro e w14 ⟨rfl, k⟩
  go_wp2_with fail
  refine (kunit k ⟨#[240, 143, 191, 191]⟩ 0 65533 1 (by decide) u15).mono ?_
  clear k
  rintro e w15 ⟨rfl, k⟩
  go_wp2_with fail
  refine (kunit k ⟨#[194, 128]⟩ 0 128 2 (by decide) u16).mono ?_
  clear k
  rintro e w16 ⟨rfl, k⟩
  go_wp2_with fail
  refine (kunit k ⟨#[223, 191]⟩ 0 2047 2 (by decide) u17).mono ?_
  clear k
  rintro e w17 ⟨rfl, k⟩
  go_wp2_with fail
  refine (kunit k ⟨#[245, 128, 128, 128]⟩ 0 65533 1 (by decide) u18).mono ?_
  clear k
  rintro e w18 ⟨rfl, k⟩
  go_wp2_with fail
  have hb := heap_alloc_new w18 (.cells #[.int .i32 (-1), .int .i32 55296, .int .i32 57343, .int .i32 1114112, .int .i32 2147483647, .int .i32 (-2147483648)] 21)
  have k1 : KW w (w18.alloc (.cells #[.int .i32 (-1), .int .i32 55296, .int .i32 57343, .int .i32 1114112, .int .i32 2147483647, .int .i32 (-2147483648)] 21)) := k.next ((Below.refl _ _).alloc (Nat.le_refl _) _)
  clear k
  generalize w18.alloc (.cells #[.int .i32 (-1), .int .i32 55296, .int .i32 57343, .int .i32 1114112, .int .i32 2147483647, .int .i32 (-2147483648)] 21) = W1 at hb k1 ⊢
  have hc : ∀ i, i < 6 → ∃ x : Int, W1.cell? ⟨w18.heap.size, i, none⟩ = some (.int .i32 x) ∧ Utf8.encode x = ⟨#[239, 191, 189]⟩ := fun i hi => by
    have : i = 0 ∨ i = 1 ∨ i = 2 ∨ i = 3 ∨ i = 4 ∨ i = 5 := by omega
    rcases this with rfl | rfl | rfl | rfl | rfl | rfl
    · exact ⟨_, cell_of_row _ _ _ _ _ _ hb, odd_enc _ (by simp)⟩
    · exact ⟨_, cell_of_row _ _ _ _ _ _ hb, odd_enc _ (by simp)⟩
    · exact ⟨_, cell_of_row _ _ _ _ _ _ hb, odd_enc _ (by simp)⟩
    · exact ⟨_, cell_of_row _ _ _ _ _ _ hb, odd_enc _ (by simp)⟩
    · exact ⟨_, cell_of_row _ _ _ _ _ _ hb, odd_enc _ (by simp)⟩
    · exact ⟨_, cell_of_row _ _ _ _ _ _ hb, odd_enc _ (by simp)⟩
  have Hc := Lib.hid hc
  have K1 := Lib.hid k1
  clear hc hb k1
  go_loop [4] (fun i => ∃ k : Nat, k ≤ 6 ∧ i = .int .i64 k) (fun i => 6 - (intOf i).toNat)
  case atStart => exact ⟨0, by omega, rfl⟩
  case round =>
    obtain ⟨k, hk, rfl⟩ := hrel
    by_cases hlt : k < 6
    · have hltI : (k : Int) < 6 := by omega
      obtain ⟨x, hx, hxe⟩ := Hc.out k hlt
      have cE := fun W => encodefn_any x W
      rw [hxe] at cE
      have hxe2 : ((⟨#[239, 191, 189]⟩ : ByteArray).toList != (⟨#[239, 191, 189]⟩ : ByteArray).toList) = false := by simp
      clear hxe
      go_wp2_with fail
      refine (cE _).mono ?_
      rintro e w19 ⟨rfl, rfl⟩
      go_wp2
      go_round
      case rel => exact ⟨k + 1, by omega, by go_num⟩
      case measure => simp [intOf]; omega
    · have hge : (6 : Int) ≤ k := by omega
      clear Hc
      go_wp2_with fail
      go_loopw [5] (fun i wr => ∃ k : Nat, k ≤ 256 ∧ i = .int .i64 k ∧ KW w wr) (fun i _ => 256 - (intOf i).toNat)
      case atStart => exact ⟨0, by omega, rfl, K1.out⟩
      case round =>
        obtain ⟨c, hc, rfl, kw⟩ := hrel
        by_cases hcl : c < 256
        · have hclI : (c : Int) < 256 := by omega
          have cv := fun W => one_conv c hcl W
          have bs : bl ⟨#[UInt8.ofNat c]⟩ = [UInt8.ofNat c] := rfl
          have cD := fun W (k : KW w W) => kdec k ⟨#[UInt8.ofNat c]⟩ 0 (one_dr c) 1 (by show (1 : Nat) ≤ 100; omega) (one_decU c hcl)
          have cF := fun W (k : KW w W) => kfull k ⟨#[UInt8.ofNat c]⟩ _ (by show (1 : Nat) ≤ 100; omega) (one_full c hcl)
          have cV := fun W (k : KW w W) => kvalid k ⟨#[UInt8.ofNat c]⟩ _ (by show (1 : Nat) ≤ 100; omega) (one_okB c hcl)
          go_wp2_with fail
          have kw1 := kw.next ((Below.refl _ _).alloc (Nat.le_refl _) (.cells #[.int .u8 c] 5))
          generalize wr.alloc (.cells #[.int .u8 c] 5) = W2 at kw1 ⊢
          clear kw cv
          obtain ⟨d, hd⟩ : ∃ d, one_dr c = d := ⟨_, rfl⟩
          obtain ⟨q1, hq1⟩ : ∃ q, decide (194 ≤ c ∧ c ≤ 244) = q := ⟨_, rfl⟩
          obtain ⟨q2, hq2⟩ : ∃ q, decide (c < 128) = q := ⟨_, rfl⟩
          rw [hd] at cD
          rw [hq1] at cF
          rw [hq2] at cV
          have hcase : (c < 128 ∧ d = c ∧ q1 = false ∧ q2 = true) ∨ (128 ≤ c ∧ c < 194 ∧ d = 65533 ∧ q1 = false ∧ q2 = false) ∨ (194 ≤ c ∧ c ≤ 244 ∧ d = 65533 ∧ q1 = true ∧ q2 = false) ∨ (245 ≤ c ∧ d = 65533 ∧ q1 = false ∧ q2 = false) := by
            subst hd hq1 hq2
            unfold one_dr
            by_cases h1 : c < 128
            · simp [h1]; omega
            · by_cases h2 : c < 194
              · simp [h1, h2]; omega
              · by_cases h3 : c ≤ 244
                · simp [h1, h3]; omega
                · simp [h1, h2, h3]; omega
          clear hd hq1 hq2
          rcases hcase with ⟨h1, rfl, rfl, rfl⟩ | ⟨h1, h2, rfl, rfl, rfl⟩ | ⟨h1, h2, rfl, rfl, rfl⟩ | ⟨h1, rfl, rfl, rfl⟩
          · have h1I : (c : Int) < 128 := by omega
            refine (cD _ kw1).mono ?_
            rintro e w20 ⟨rfl, kw2⟩
            go_wp2_with fail
            refine (cF _ kw2).mono ?_
            rintro e w21 ⟨rfl, kw3⟩
            go_wp2_with fail
            refine (cV _ kw3).mono ?_
            rintro e w22 ⟨rfl, kw4⟩
            go_wp2_with fail
            go_round
            case rel => exact ⟨c + 1, by omega, by go_num, kw4⟩
            case measure => simp [intOf]; omega
          · have h1I : (128 : Int) ≤ c := by omega
            have h2I : (c : Int) < 194 := by omega
            refine (cD _ kw1).mono ?_
            rintro e w20 ⟨rfl, kw2⟩
            go_wp2_with fail
            refine (cF _ kw2).mono ?_
            rintro e w21 ⟨rfl, kw3⟩
            go_wp2_with fail
            refine (cV _ kw3).mono ?_
            rintro e w22 ⟨rfl, kw4⟩
            go_wp2_with fail
            go_round
            case rel => exact ⟨c + 1, by omega, by go_num, kw4⟩
            case measure => simp [intOf]; omega
          · have h0I : (128 : Int) ≤ c := by omega
            have h1I : (194 : Int) ≤ c := by omega
            have h2I : (c : Int) ≤ 244 := by omega
            refine (cD _ kw1).mono ?_
            rintro e w20 ⟨rfl, kw2⟩
            go_wp2_with fail
            refine (cF _ kw2).mono ?_
            rintro e w21 ⟨rfl, kw3⟩
            go_wp2_with fail
            refine (cV _ kw3).mono ?_
            rintro e w22 ⟨rfl, kw4⟩
            go_wp2_with fail
            go_round
            case rel => exact ⟨c + 1, by omega, by go_num, kw4⟩
            case measure => simp [intOf]; omega
          · have h0I : (128 : Int) ≤ c := by omega
            have h3I : (194 : Int) ≤ c := by omega
            have h1I : (244 : Int) < c := by omega
            refine (cD _ kw1).mono ?_
            rintro e w20 ⟨rfl, kw2⟩
            go_wp2_with fail
            refine (cF _ kw2).mono ?_
            rintro e w21 ⟨rfl, kw3⟩
            go_wp2_with fail
            refine (cV _ kw3).mono ?_
            rintro e w22 ⟨rfl, kw4⟩
            go_wp2_with fail
            go_round
            case rel => exact ⟨c + 1, by omega, by go_num, kw4⟩
            case measure => simp [intOf]; omega
        · have hge : (256 : Int) ≤ c := by omega
          clear K1
          go_wp2_with fail
          refine (kbef kw ⟨#[97, 195, 169]⟩ 3 233 2 (by decide) v1).mono ?_
          clear kw
          rintro e w20 ⟨rfl, kw⟩
          go_wp2_with fail
          refine (kbef kw ⟨#[97, 195, 169]⟩ 2 65533 1 (by decide) v2).mono ?_
          clear kw
          rintro e w21 ⟨rfl, kw⟩
          go_wp2_with fail
          refine (kbef kw ⟨#[97]⟩ 0 65533 0 (by decide) v3).mono ?_
          clear kw
          rintro e w22 ⟨rfl, kw⟩
          go_wp2_with fail
          refine (kbef kw ⟨#[97]⟩ 2 65533 0 (by decide) v4).mono ?_
          clear kw
          rintro e w23 ⟨rfl, kw⟩
          go_wp2_with fail
          have c1 := encodefn_any 0 w23
          have c2 := encodefn_any 1114111 w23
          have c3 := encodefn_any 55295 w23
          rw [e1] at c1
          rw [e2] at c2
          rw [e3] at c3
          refine c1.mono ?_
          rintro e w24 ⟨rfl, rfl⟩
          go_wp2_with fail
          refine c2.mono ?_
          rintro e w24 ⟨rfl, rfl⟩
          go_wp2_with fail
          refine c3.mono ?_
          rintro e w24 ⟨rfl, rfl⟩
          clear c1 c2 c3
          go_wp2_with fail
          refine (ktext kw [97, 55296, 233] _ _ 3 _ rfl rfl (congrArg (fun l : List UInt8 => (⟨l.toArray⟩ : ByteArray)) e4)).mono ?_
          clear kw
          rintro e w25 ⟨rfl, kw⟩
          go_wp2_with fail
          refine (kfull kw ⟨#[]⟩ false (by decide) (by decide +kernel)).mono ?_
          clear kw
          rintro e w26 ⟨rfl, kw⟩
          go_wp2_with fail
          refine (kfull kw ⟨#[195]⟩ false (by decide) (by decide +kernel)).mono ?_
          clear kw
          rintro e w26 ⟨rfl, kw⟩
          go_wp2_with fail
          refine (kfull kw ⟨#[226, 130]⟩ false (by decide) (by decide +kernel)).mono ?_
          clear kw
          rintro e w26 ⟨rfl, kw⟩
          go_wp2_with fail
          refine (kfull kw ⟨#[240, 159, 152]⟩ false (by decide) (by decide +kernel)).mono ?_
          clear kw
          rintro e w26 ⟨rfl, kw⟩
          go_wp2_with fail
          refine (kfull kw ⟨#[195, 169]⟩ true (by decide) (by decide +kernel)).mono ?_
          clear kw
          rintro e w26 ⟨rfl, kw⟩
          go_wp2_with fail
          refine (kfull kw ⟨#[97, 195]⟩ true (by decide) (by decide +kernel)).mono ?_
          clear kw
          rintro e w26 ⟨rfl, kw⟩
          go_wp2_with fail
          refine (kfull kw ⟨#[192]⟩ true (by decide) (by decide +kernel)).mono ?_
          clear kw
          rintro e w26 ⟨rfl, kw⟩
          go_wp2_with fail
          refine (kfull kw ⟨#[226, 40]⟩ true (by decide) (by decide +kernel)).mono ?_
          clear kw
          rintro e w26 ⟨rfl, kw⟩
          go_wp2_with fail
          refine (kfull kw ⟨#[237, 160]⟩ true (by decide) (by decide +kernel)).mono ?_
          clear kw
          rintro e w26 ⟨rfl, kw⟩
          go_wp2_with fail
          refine (kfull kw ⟨#[244, 144]⟩ true (by decide) (by decide +kernel)).mono ?_
          clear kw
          rintro e w26 ⟨rfl, kw⟩
          go_wp2_with fail
          refine (kfull kw ⟨#[244, 143]⟩ false (by decide) (by decide +kernel)).mono ?_
          clear kw
          rintro e w26 ⟨rfl, kw⟩
          go_wp2_with fail
          refine (kbads kw ⟨#[97, 226, 130, 98, 195]⟩ [1, 2, 4, 1] _ _ 4 (by decide) rfl rfl g1).mono ?_
          clear kw
          rintro e w27 ⟨rfl, kw⟩
          go_wp2_with fail
          refine (kbads kw ⟨#[240, 159, 152, 240, 159]⟩ [0, 3, 3, 2] _ _ 4 (by decide) rfl rfl g2).mono ?_
          clear kw
          rintro e w27 ⟨rfl, kw⟩
          go_wp2_with fail
          refine (kbads kw ⟨#[237, 160, 128]⟩ [0, 1, 1, 1, 2, 1] _ _ 6 (by decide) rfl rfl g3).mono ?_
          clear kw
          rintro e w27 ⟨rfl, kw⟩
          go_wp2_with fail
          refine (kbads kw ⟨#[244, 144]⟩ [0, 1, 1, 1] _ _ 4 (by decide) rfl rfl g4).mono ?_
          clear kw
          rintro e w27 ⟨rfl, kw⟩
          go_wp2_with fail
          refine (kbads kw ⟨#[128, 128]⟩ [0, 1, 1, 1] _ _ 4 (by decide) rfl rfl g5).mono ?_
          clear kw
          rintro e w27 ⟨rfl, kw⟩
          go_wp2_with fail
          refine (kbad0 kw ⟨#[195, 169]⟩ (by decide) g6).mono ?_
          clear kw
          rintro e w27 ⟨rfl, kw⟩
          go_wp2_with fail
          refine (kbads kw ⟨#[225, 128, 195, 169]⟩ [0, 2] _ _ 2 (by decide) rfl rfl g7).mono ?_
          clear kw
          rintro e w27 ⟨rfl, kw⟩
          go_wp2_with fail
          refine (kmend kw ⟨#[97, 226, 130, 98]⟩ ⟨#[63]⟩ true _ (by decide) (by decide) (congrArg (fun l : List UInt8 => (⟨l.toArray⟩ : ByteArray)) m1)).mono ?_
          clear kw
          rintro e w28 ⟨rfl, kw⟩
          go_wp2_with fail
          refine (kmend kw ⟨#[97, 226, 130, 98]⟩ ⟨#[63]⟩ false _ (by decide) (by decide) (congrArg (fun l : List UInt8 => (⟨l.toArray⟩ : ByteArray)) m2)).mono ?_
          clear kw
          rintro e w28 ⟨rfl, kw⟩
          go_wp2_with fail
          refine (kmend kw ⟨#[195]⟩ ⟨#[169]⟩ true _ (by decide) (by decide) (congrArg (fun l : List UInt8 => (⟨l.toArray⟩ : ByteArray)) m3)).mono ?_
          clear kw
          rintro e w28 ⟨rfl, kw⟩
          go_wp2_with fail
          go_ret
          exact ⟨rfl, kw.bel⟩
end Go.Proofs.YtbkimhbpcmbflaaDoor.C
