/-
  GA, MM, UU, Q1, Q3, Y1, V0, BK1, BK2, BF1, BF2, WK2, WK3, WK4, WK5: what is wanted of these, joined to one text.
-/
import Derived.Test.YtbkimhbpcmbflaaDoorShelf
import Derived.Test.YtbkimhbpcmbflaaDoorMath1
import Derived.WalkKit
import Derived.WalkSpells
import Derived.WalkLawsBesides
import Derived.BigCall
import Derived.Lib.Hide
import Derived.Lib.IndexBytes
import Derived.Laws.IdiomStrings
import Derived.Lib.OthersKept
import Derived.Lib.AppendStr
import Derived.Laws.BytesArg
import Derived.LaidEql
import Derived.Stop.Asserts
import Derived.RowKitTokens
import Derived.KernelRfl
import Derived.Laws.Tables
import Derived.Laws.Rows
import Derived.Deep.RegionHeld3
import Derived.Test.YtbkimhbpcmbflaaDoorPAllx
import Derived.Laws.Cover4
import Derived.Lib.SpaceU
import Derived.RangeFuncNested
import Derived.RangeFuncBound
import Derived.RangeFuncCalls
import Derived.RangeFuncLeaves
import Derived.Shelf.Abstract
import Derived.Shelf.RegionOpen
import Derived.OwnWalkIn
import Derived.TacticsInMore
import Derived.LoopNIn
import Derived.LoopIn
import Derived.Shelf.Unicode.ValidAny
import Derived.Deep.QuietTactic
import Derived.BigQuiet
import Derived.RangeFuncBox
import Derived.Laws.EntriesVeiled
set_option linter.unusedVariables false
set_option linter.unusedSimpArgs false
namespace Go.Proofs.YtbkimhbpcmbflaaDoor.C
open Go Go.RowKit Go.Proofs.YtbkimhbpcmbflaaDoor.M
abbrev bl (s : ByteArray) : List UInt8 := s.data.toList
theorem bl_len (s : ByteArray) : (bl s).length = s.size := (Lib.size_eq s).symm
theorem bl_extract (s : ByteArray) (p : Nat) : bl (s.extract p s.size) = (bl s).drop p := Lib.extract_to_end s p
theorem bl_nonempty {s : ByteArray} {p : Nat} (h : p < s.size) : (bl s).drop p ≠ [] := ne_nil_of_lt (by rw [bl_len]; exact h)
theorem decodeGo_eq {s : ByteArray} {p : Nat} (h : p < s.size) : Lib.decodeGo (s.extract p s.size) = (dc ((bl s).drop p), dw ((bl s).drop p)) := by
  unfold Lib.decodeGo
  have hz : (s.extract p s.size).size = s.size - p := by simp
  rw [if_neg (by omega)]
  have := Lib.decodeL_drop (s.extract p s.size) 0
  rw [← this]
  show Lib.decodeL (List.drop 0 (bl (s.extract p s.size))) = _
  rw [bl_extract]
  rfl
theorem byte_at {s : ByteArray} {p : Nat} (h : p < s.size) : (s[p]'h).toNat = b0 ((bl s).drop p) := by
  unfold b0 bl
  simp only [List.getD_eq_getElem?_getD, List.getElem?_drop, Nat.add_zero]
  have hp : p < s.data.toList.length := by have := Lib.size_eq s; omega
  rw [List.getElem?_eq_getElem hp]
  rfl
/-- unicode/utf8.DecodeRuneInString behind a cut. -/
theorem decode_rest (s : ByteArray) (p : Nat) (w : World) (hT : Lib.Utf8Tabs 0 1 w) (h : p < s.size) :
    Calls Tryd.prog 96 #[.string (s.extract p s.size)] w fun e w' => e = .returned (.tuple #[.int .i32 (dc ((bl s).drop p) : Nat), .int .i64 (dw ((bl s).drop p) : Nat)]) ∧ Below w.heap.size w w' := by
  have := Tryd.utf8_DecodeRuneInString (s.extract p s.size) w hT
  rw [decodeGo_eq h] at this
  exact this
def decU (l : List UInt8) (a : Int) : Int × Int := if a < 0 ∨ (l.length : Int) ≤ a then (65533, 0) else ((dc (l.drop a.toNat) : Nat), (dw (l.drop a.toNat) : Nat))
set_option maxHeartbeats 1000000 in
theorem decode_any (s : ByteArray) (a : Int) (w : World) (hT : Lib.Utf8Tabs 0 1 w) (hs : s.size ≤ 140737488351232) :
    Calls Tryd.prog 71 #[.string s, .int .i64 a] w fun e w' => e = .returned (.tuple #[.int .i32 (decU (bl s) a).1, .int .i64 (decU (bl s) a).2]) ∧ Below w.heap.size w w' := by
  unfold decU
  rw [bl_len]
  by_cases h : a < 0 ∨ (s.size : Int) ≤ a
  · rw [if_pos h]
    by_cases h1 : a < 0
    · go_enter Tryd.func71, Tryd.ntmps71
      go_wp2
      go_ret2
      exact ⟨rfl, Below.refl _ _⟩
    · have h2 : (s.size : Int) ≤ a := by omega
      go_enter Tryd.func71, Tryd.ntmps71
      go_wp2
      go_ret2
      exact ⟨rfl, Below.refl _ _⟩
  · rw [if_neg h]
    obtain ⟨p, rfl⟩ : ∃ p : Nat, a = p := ⟨a.toNat, by omega⟩
    have hp : p < s.size := by omega
    have cD := decode_rest s p
    rw [Int.toNat_natCast]
    generalize dc ((bl s).drop p) = c at *
    generalize dw ((bl s).drop p) = k at *
    clear h
    have h1 : (p : Int) < s.size := by omega
    go_enter Tryd.func71, Tryd.ntmps71
    go_wp2_with (go_at_call 96; refine (cD _ hT hp).mono ?_; rintro e w' ⟨rfl, hb⟩)
    go_ret2
    exact ⟨rfl, hb⟩
end Go.Proofs.YtbkimhbpcmbflaaDoor.C
set_option linter.unusedVariables false
set_option linter.unusedSimpArgs false
namespace Go.Proofs.YtbkimhbpcmbflaaDoor.C
open Go Go.RowKit Go.Proofs.YtbkimhbpcmbflaaDoor.M
/-- a row of whole numbers, of the call's own -/
def Row (w : World) (base : Nat) (e : TypeId) (k : IntKind) (v : Value) (xs : List Int) : Prop := w.ownsRow base e 1 v xs.length (xs.map (Value.int k))
theorem cell_modify {w : World} {B : Nat} {cur : Array Value} {e : TypeId} (h : w.heap[B]? = some (.cells cur e (0, 0))) (j : Nat) (u : Value) :
    (w.setCell ⟨B, j, none⟩ u).heap[B]? = some (.cells (cur.setIfInBounds j u) e (0, 0)) := by
  simp [World.setCell, Array.getElem?_modify, h]
theorem frozen_cells {w : World} {B : Nat} {cur : Array Value} {e : TypeId} (h : w.heap[B]? = some (.cells cur e (0, 0))) (j : Nat) : w.frozen? ⟨B, j, none⟩ = false := by
  simp [World.frozen?, h]
theorem w32 {x : Int} (h0 : -2147483648 ≤ x) (h1 : x ≤ 2147483647) : wrap32 x = x := by unfold wrap32; omega
theorem w64 {x : Int} (h0 : -9223372036854775808 ≤ x) (h1 : x ≤ 9223372036854775807) : wrap64 x = x := by unfold wrap64; omega
end Go.Proofs.YtbkimhbpcmbflaaDoor.C
set_option linter.unusedVariables false
set_option linter.unusedSimpArgs false
namespace Go.Proofs.YtbkimhbpcmbflaaDoor.C
open Go Go.RowKit Go.Proofs.YtbkimhbpcmbflaaDoor.M
/-- a row of whole numbers that is read: below block B -/
def Rd (w : World) (B : Nat) (k : IntKind) (A : Option Addr) (xs : List Int) : Prop :=
  xs = [] ∨ ∃ x : Addr, A = some x ∧ x.block < B ∧ ∀ j u, xs[j]? = some u → w.cell? (x.add j) = some (.int k u)
theorem add_block (a : Addr) (n : Nat) : (a.add n).block = a.block := by unfold Addr.add; split <;> rfl
theorem Rd.below {w w' : World} {B B' : Nat} {k : IntKind} {A : Option Addr} {xs : List Int} (h : Rd w B k A xs) (hb : Below B' w w') (hB : B ≤ B') : Rd w' B k A xs := by
  rcases h with h | ⟨x, e, hlt, hc⟩
  · exact .inl h
  · exact .inr ⟨x, e, hlt, fun j u hj => (hb.cell (p := x.add j) (by rw [add_block]; omega)).trans (hc j u hj)⟩
theorem Rd.more {w : World} {B B' : Nat} {k : IntKind} {A : Option Addr} {xs : List Int} (h : Rd w B k A xs) (hB : B ≤ B') : Rd w B' k A xs := by
  rcases h with h | ⟨x, e, hlt, hc⟩
  · exact .inl h
  · exact .inr ⟨x, e, by omega, hc⟩
theorem Row.reads {w : World} {base : Nat} {e : TypeId} {k : IntKind} {v : Value} {xs : List Int} (h : Row w base e k v xs) : ∃ A c, v = .slice A xs.length c ∧ xs.length ≤ c ∧ Rd w w.heap.size k A xs := by
  have h0 := h
  rcases h.2 with ⟨rfl, hn⟩ | ⟨g, cap, cur, rfl, hg, hh, hnc, hm, hcs, ht⟩
  · exact ⟨none, 0, by rw [hn], by omega, .inl (List.eq_nil_of_length_eq_zero hn)⟩
  · exact ⟨_, cap, rfl, hnc, .inr ⟨⟨g, 0, none⟩, rfl, (Array.getElem?_eq_some_iff.1 hh).1, fun j u hj => World.ownsRow.cells h0 (g := g) rfl j (.int k u) (by rw [List.getElem?_map, hj]; rfl)⟩⟩
/-- bytes as cells -/
def bcells (bs : List UInt8) : List Value := bs.map fun b => Value.int .u8 (b.toNat : Int)
theorem bcells_append (a b : List UInt8) : bcells (a ++ b) = bcells a ++ bcells b := by simp [bcells]
theorem Tryd.infoByte : (Tryd.prog.info? 5).map (fun i => (i.zero, i.size, i.bytes)) = some (some (.int .u8 0), 1, 1) := by kernel_rfl
end Go.Proofs.YtbkimhbpcmbflaaDoor.C
set_option linter.unusedVariables false
set_option linter.unusedSimpArgs false
namespace Go.Proofs.YtbkimhbpcmbflaaDoor.E
open Go Go.RowKit Go.Extern.Stop Go.Stop Go.Extern
end Go.Proofs.YtbkimhbpcmbflaaDoor.E
set_option linter.unusedVariables false
set_option linter.unusedSimpArgs false
namespace Go.Proofs.YtbkimhbpcmbflaaDoor.E
open Go Go.RowKit Go.Extern.Stop Go.Stop Go.Extern
end Go.Proofs.YtbkimhbpcmbflaaDoor.E
set_option linter.unusedVariables false
set_option linter.unusedSimpArgs false
namespace Go.Proofs.YtbkimhbpcmbflaaDoor.E
open Go Go.RowKit
end Go.Proofs.YtbkimhbpcmbflaaDoor.E
set_option linter.unusedVariables false
set_option linter.unusedSimpArgs false
namespace Go.Proofs.YtbkimhbpcmbflaaDoor.C
open Go Go.RowKit Go.Proofs.YtbkimhbpcmbflaaDoor.M Go.Proofs.YtbkimhbpcmbflaaDoor.E
/-- errors.errorType as it is laid -/
def HE (w : World) : Prop := w.cell? ⟨2, 0, none⟩ = some (.iface 146 (.agg #[.pointer (some ⟨4, 33, none⟩)]))
theorem HE.lt {w : World} (h : HE w) : 2 < w.heap.size := by
  rcases Nat.lt_or_ge 2 w.heap.size with h' | h'
  · exact h'
  · unfold HE at h
    simp [World.cell?, Array.getElem?_eq_none h'] at h
theorem HE.below {w w' : World} {B : Nat} (h : HE w) (hb : Below B w w') (hB : w.heap.size ≤ B) : HE w' :=
  (hb.cell (p := ⟨2, 0, none⟩) (by have := h.lt; show 2 < B; omega)).trans h
theorem Row.below {w w' : World} {base : Nat} {e : TypeId} {k : IntKind} {v : Value} {xs : List Int} (h : Row w base e k v xs) (hb : Below w.heap.size w w') : Row w' base e k v xs := by
  refine ⟨h.1, ?_⟩
  rcases h.2 with h | ⟨g, cap, cur, h1, h2, h3, h4⟩
  · exact .inl h
  · exact .inr ⟨g, cap, cur, h1, h2, (hb.block g (Array.getElem?_eq_some_iff.1 h3).1).trans h3, h4⟩
end Go.Proofs.YtbkimhbpcmbflaaDoor.C
set_option linter.unusedVariables false
set_option linter.unusedSimpArgs false
namespace Go.Proofs.YtbkimhbpcmbflaaDoor.C
open Go Go.RowKit Go.Proofs.YtbkimhbpcmbflaaDoor.M Go.Proofs.YtbkimhbpcmbflaaDoor.PAll Go.Proofs.YtbkimhbpcmbflaaDoorW.PrintWords
section
variable (s : ByteArray) (p : Nat) (hs : s.size ≤ 140737488351232)
include hs in
end
section
variable (s : ByteArray) (p : Nat) (hs : s.size ≤ 140737488351232) (hp : p < s.size)
def x2 (a b : Nat) : Nat := a % 32 * 64 + b % 64
include hs hp in
def chr (x : Nat) : Prop := x < 55296 ∨ 57344 ≤ x ∧ x ≤ 1114111
instance (x : Nat) : Decidable (chr x) := inferInstanceAs (Decidable (_ ∨ _))
include hs hp in
include hs hp in
end
end Go.Proofs.YtbkimhbpcmbflaaDoor.C
set_option linter.unusedVariables false
set_option linter.unusedSimpArgs false
namespace Go.Proofs.YtbkimhbpcmbflaaDoor.C
open Go Go.RowKit Go.Proofs.YtbkimhbpcmbflaaDoor.M Go.Proofs.YtbkimhbpcmbflaaDoor.E Go.Proofs.YtbkimhbpcmbflaaDoor.PAll Go.Proofs.YtbkimhbpcmbflaaDoorW.PrintWords
theorem cell_lt {w : World} {b o : Nat} {v : Value} (h : w.cell? ⟨b, o, none⟩ = some v) : b < w.heap.size := by
  rcases Nat.lt_or_ge b w.heap.size with h' | h'
  · exact h'
  · simp [World.cell?, Array.getElem?_eq_none h'] at h
theorem tabs_below {w w' : World} {g3 g4 B : Nat} (h : Lib.Utf8Tabs g3 g4 w) (hb : Below B w w') (hB : w.heap.size ≤ B) : Lib.Utf8Tabs g3 g4 w' := by
  have l3 := cell_lt (h.1 0 (by omega))
  have l4 := cell_lt (h.2 0 (by omega)).1
  exact ⟨fun c hc => (hb.cell (p := ⟨g3, c, none⟩) (by show g3 < B; omega)).trans (h.1 c hc), fun i hi => ⟨(hb.cell (p := ⟨g4, 2 * i, none⟩) (by show g4 < B; omega)).trans (h.2 i hi).1, (hb.cell (p := ⟨g4, 2 * i + 1, none⟩) (by show g4 < B; omega)).trans (h.2 i hi).2⟩⟩
end Go.Proofs.YtbkimhbpcmbflaaDoor.C
set_option linter.unusedVariables false
set_option linter.unusedSimpArgs false
namespace Go.Proofs.YtbkimhbpcmbflaaDoor.C
open Go Go.RowKit Go.Proofs.YtbkimhbpcmbflaaDoor.M Go.Proofs.YtbkimhbpcmbflaaDoor.E Go.Proofs.YtbkimhbpcmbflaaDoor.PAll Go.Proofs.YtbkimhbpcmbflaaDoorW.PrintWords
theorem Rd_of {w : World} {B : Nat} {k : IntKind} {A : Option Addr} {xs : List Int} (h : (Kd.int k).C w A xs.length xs) (hb : ∀ x, A = some x → x.block < B) : Rd w B k A xs := by
  obtain ⟨_, _, h3⟩ := h
  rcases Nat.eq_zero_or_pos xs.length with hz | hp
  · exact .inl (List.eq_nil_of_length_eq_zero hz)
  · obtain ⟨x, rfl, hc⟩ := h3 hp
    refine .inr ⟨x, rfl, hb x rfl, fun j u hj => ?_⟩
    obtain ⟨c, hcl, hcc, hcell⟩ := hc j u hj
    have e : c = [.int k u] := hcc
    subst e
    have := hcell 0 _ rfl
    simpa [Kd.int, Kd.scalar] using this
/-- what a printed contract hands back, as a row that is read -/
theorem R_rd {w : World} {e base : Nat} {ok : Nat → Prop} {k : IntKind} {v : Value} {xs : List Int} (h : (Kd.int k).R e w base ok v xs) : ∃ A c, v = .slice A xs.length c ∧ xs.length ≤ c ∧ Rd w w.heap.size k A xs := by
  obtain ⟨A, c, rfl, hl, hC⟩ := Kd.R_reads h
  refine ⟨A, c, rfl, hl, ?_⟩
  rcases Nat.eq_zero_or_pos xs.length with hz | hp
  · exact .inl (List.eq_nil_of_length_eq_zero hz)
  · obtain ⟨g, cap, he, hb, hlt, _⟩ := Kd.R_form h hp
    injection he with he _ _
    exact Rd_of hC (fun x hx => by rw [he] at hx; injection hx with hx; rw [← hx]; exact hlt)
/-- a slice of whole numbers, as it comes in -/
def IsRow (k : IntKind) (w : World) (a : Option Addr) (len cap : Nat) (zs : List Int) : Prop :=
  (a = none ∧ len = 0 ∧ cap = 0 ∧ zs = []) ∨
  ∃ x, a = some x ∧ (0 < cap → x.block < w.heap.size) ∧ len ≤ cap ∧ cap ≤ maxLen ∧ zs.length = cap ∧ (∀ i, i < zs.length → w.cell? (x.add i) = some (.int k (zs.getD i 0))) ∧ ∀ n ∈ zs, (Lit.int k n).wf = true
theorem cell_blk {w : World} {p : Addr} {v : Value} (h : w.cell? p = some v) : p.block < w.heap.size := by
  rcases Nat.lt_or_ge p.block w.heap.size with h' | h'
  · exact h'
  · simp [World.cell?, Array.getElem?_eq_none h'] at h
theorem IsRow.rd {k : IntKind} {w : World} {a : Option Addr} {len cap : Nat} {zs : List Int} (h : IsRow k w a len cap zs) : (zs.take len).length = len ∧ Rd w w.heap.size k a (zs.take len) ∧ len ≤ cap ∧ ∀ x ∈ zs.take len, (Lit.int k x).wf = true := by
  rcases h with ⟨rfl, rfl, rfl, rfl⟩ | ⟨x, rfl, hb, hl, hm, hz, hc, hw⟩
  · exact ⟨rfl, .inl rfl, Nat.le_refl _, by simp⟩
  · refine ⟨by rw [List.length_take]; omega, ?_, hl, fun y hy => hw y (List.mem_of_mem_take hy)⟩
    rcases Nat.eq_zero_or_pos len with h0 | h0
    · left; rw [h0]; rfl
    refine .inr ⟨x, rfl, hb (by omega), fun j u hj => ?_⟩
    rw [List.getElem?_take] at hj
    split at hj
    · have hlt := (List.getElem?_eq_some_iff.1 hj).1
      rw [hc j hlt, List.getD_eq_getElem?_getD, hj]; rfl
    · cases hj
end Go.Proofs.YtbkimhbpcmbflaaDoor.C
set_option linter.unusedVariables false
set_option linter.unusedSimpArgs false
namespace Go.Proofs.YtbkimhbpcmbflaaDoor.C
open Go Go.RowKit Go.Proofs.YtbkimhbpcmbflaaDoor.M Go.Proofs.YtbkimhbpcmbflaaDoor.E Go.Proofs.YtbkimhbpcmbflaaDoor.PAll Go.Proofs.YtbkimhbpcmbflaaDoorW.PrintWords
theorem rd_nat (xs : List Int) (i : Nat) : rd xs (i : Int) = xs.getD i 0 := by unfold rd; rw [Int.toNat_natCast]
theorem rd_some {xs : List Int} {i : Nat} {u : Int} (h : xs[i]? = some u) : rd xs (i : Int) = u := by rw [rd_nat, List.getD_eq_getElem?_getD, h]; rfl
theorem wi (n : Nat) (h : (n : Int) + 1 ≤ 9223372036854775807) : wrap64 ((n : Int) + 1) = ((n + 1 : Nat) : Int) := by rw [w64 (by omega) (by omega)]; omega
def marks : Nat → Int → List Int
  | 0, _ => []
  | m + 1, i => (-91000 - i) :: marks m (i + 1)
end Go.Proofs.YtbkimhbpcmbflaaDoor.C
set_option linter.unusedVariables false
set_option linter.unusedSimpArgs false
namespace Go.Proofs.YtbkimhbpcmbflaaDoor.C
open Go Go.RowKit Go.Proofs.YtbkimhbpcmbflaaDoor.M Go.Proofs.YtbkimhbpcmbflaaDoor.E Go.Proofs.YtbkimhbpcmbflaaDoor.PAll Go.Proofs.YtbkimhbpcmbflaaDoorW.PrintWords
end Go.Proofs.YtbkimhbpcmbflaaDoor.C
set_option linter.unusedVariables false
set_option linter.unusedSimpArgs false
namespace Go.Proofs.YtbkimhbpcmbflaaDoor.C
open Go Go.RowKit Go.Proofs.YtbkimhbpcmbflaaDoor.M Go.Proofs.YtbkimhbpcmbflaaDoor.E Go.Proofs.YtbkimhbpcmbflaaDoor.PAll Go.Proofs.YtbkimhbpcmbflaaDoorW.PrintWords
theorem runes_len (l : List UInt8) : (runes l).length = (sfx l).length := by simp [runes]
/-- Go's own conversion of a text into a list of runes -/
theorem runes_conv (s : ByteArray) (W : World) (h46 : (sfx (bl s)).length ≤ 70368744177664) :
    ∃ cap W', (convert 9 22 (.string s)).run Tryd.prog W = .ok (.slice (some ⟨W.heap.size, 0, none⟩) (runes (bl s)).length cap) W' ∧ Rd W' W'.heap.size .i32 (some ⟨W.heap.size, 0, none⟩) (runes (bl s)) ∧ (runes (bl s)).length ≤ cap ∧ Below W.heap.size W W' := by
  have hsz : (Conv.runesFrom s s.size 0 #[]).size = (sfx (bl s)).length := conv_runes_size s
  have hli : (Conv.runesFrom s s.size 0 #[]).toList = (runes (bl s)).map (Value.int .i32) := conv_runes s
  have hcv := run_runes_of_string (P := Tryd.prog) W 9 22 21 s Tryd.underlying9 Tryd.underlying22 Tryd.underlying21 (by omega)
  have hge := grownCap_ge W (Conv.runesFrom s s.size 0 #[]).size 0 21
  have hrl := runes_len (bl s)
  have hse : (Conv.runesFrom s s.size 0 #[]).size = (runes (bl s)).length := by omega
  rw [hse] at hcv hge
  refine ⟨_, _, hcv, ?_, by omega, ?_⟩
  · refine .inr ⟨⟨W.heap.size, 0, none⟩, rfl, by simp, fun j u hj => ?_⟩
    have ea : (⟨W.heap.size, 0, none⟩ : Addr).add j = ⟨W.heap.size, j, none⟩ := by unfold Addr.add; split <;> simp_all
    have hb := heap_alloc_new W.drew (.cells (Conv.runesFrom s s.size 0 #[] ++ Array.replicate (grownCap W (runes (bl s)).length 0 21 - (runes (bl s)).length) (.int .i32 0)) 21)
    have hd : W.drew.heap.size = W.heap.size := by simp
    rw [hd] at hb
    rw [ea, cell_of_row _ _ _ _ _ _ hb]
    have hjl := (List.getElem?_eq_some_iff.1 hj).1
    rw [Array.getElem?_append_left (by omega), ← Array.getElem?_toList, hli, List.getElem?_map, hj]
    rfl
  · exact ((Below.refl _ W).drew).alloc (by simp) _
end Go.Proofs.YtbkimhbpcmbflaaDoor.C
set_option linter.unusedVariables false
set_option linter.unusedSimpArgs false
set_option maxRecDepth 100000
namespace Go.Proofs.YtbkimhbpcmbflaaDoor.M
open Go Go.Lib
/-- how many bytes a first byte asks for (0: it begins nothing), and between which its second one lies -/
def leadN (c : Nat) : Nat := if c < 128 then 1 else if c < 194 then 0 else if c < 224 then 2 else if c < 240 then 3 else if c < 245 then 4 else 0
def leadLo (c : Nat) : Nat := if c = 224 then 160 else if c = 240 then 144 else 128
def leadHi (c : Nat) : Nat := if c = 237 then 159 else if c = 244 then 143 else 191
/-- how many bytes from the head on are a beginning of some character's -/
def bgN (b0 b1 b2 b3 : Nat) : Nat :=
  if leadN b0 ≤ 1 then leadN b0
  else if b1 < leadLo b0 ∨ leadHi b0 < b1 then 1
  else if leadN b0 ≤ 2 ∨ b2 < 128 ∨ 191 < b2 then 2
  else if leadN b0 ≤ 3 ∨ b3 < 128 ∨ 191 < b3 then 3
  else 4
def nb (l : List UInt8) : Nat := leadN (b0 l)
def bg (l : List UInt8) : Nat := bgN (b0 l) (l.getD 1 0).toNat (l.getD 2 0).toNat (l.getD 3 0).toNat
theorem leadN_le (c : Nat) : leadN c ≤ 4 := by unfold leadN; repeat' split
                                               all_goals omega
theorem leadLo_ge (c : Nat) : 128 ≤ leadLo c := by unfold leadLo; repeat' split
                                                   all_goals omega
theorem leadHi_le (c : Nat) : leadHi c ≤ 191 := by unfold leadHi; repeat' split
                                                   all_goals omega
theorem bgN_le (b0 b1 b2 b3 : Nat) : bgN b0 b1 b2 b3 ≤ leadN b0 := by
  unfold bgN
  repeat' split
  all_goals omega
theorem lead_first : ∀ c, c < 256 → (firstT c = 240 ∧ leadN c = 1 ∧ c < 128) ∨ (firstT c = 241 ∧ leadN c = 0) ∨ (firstT c < 240 ∧ firstT c % 8 = leadN c ∧ 2 ≤ leadN c ∧ accLo (firstT c / 16) = leadLo c ∧ accHi (firstT c / 16) = leadHi c) := by
  decide +kernel
/-- what decoding makes of it -/
theorem decodeN_bg (n b0 b1 b2 b3 : Nat) (hn : 1 ≤ n) (h0 : b0 < 256) (h1 : b1 < 256) (h2 : b2 < 256) (h3 : b3 < 256) (hk : bgN b0 b1 b2 b3 ≤ n) :
    ((bgN b0 b1 b2 b3 < leadN b0 ∨ leadN b0 = 0) ∧ decodeN n b0 b1 b2 b3 = (65533, 1)) ∨
    (bgN b0 b1 b2 b3 = leadN b0 ∧ 1 ≤ leadN b0 ∧ (decodeN n b0 b1 b2 b3).2 = leadN b0 ∧
      (decodeN n b0 b1 b2 b3).1 = (if leadN b0 = 1 then b0 else if leadN b0 = 2 then b0 % 32 * 64 + b1 % 64 else if leadN b0 = 3 then b0 % 16 * 4096 + b1 % 64 * 64 + b2 % 64 else b0 % 8 * 262144 + b1 % 64 * 4096 + b2 % 64 * 64 + b3 % 64)) := by
  have hle := leadN_le b0
  rcases lead_first b0 h0 with ⟨f, e, _⟩ | ⟨f, e⟩ | ⟨f, e, g2, e2, e3⟩
  · right
    have e2 : bgN b0 b1 b2 b3 = 1 := by unfold bgN; rw [e]; rfl
    rw [ascii_eq n b0 b1 b2 b3 f, e, e2]
    exact ⟨rfl, by omega, rfl, rfl⟩
  · left
    exact ⟨.inr e, bad_eq n b0 b1 b2 b3 h0 f⟩
  · have hs := slow_eq n b0 b1 b2 b3 hn h1 h2 h3 f
    rw [e, e2, e3] at hs
    rw [← hs]
    unfold bgN at hk ⊢
    unfold slowN
    generalize leadN b0 = L at *
    generalize leadLo b0 = lo at *
    generalize leadHi b0 = hi at *
    rw [if_neg (by omega)] at hk ⊢
    by_cases c1 : b1 < lo ∨ hi < b1
    · left
      rw [if_pos c1] at hk ⊢
      rw [if_pos c1]
      refine ⟨.inl (by omega), ?_⟩
      split <;> rfl
    · rw [if_neg c1] at hk ⊢
      rw [if_neg c1]
      by_cases l2 : L ≤ 2
      · right
        rw [if_pos (.inl l2)] at hk ⊢
        rw [if_pos l2]
        obtain rfl : L = 2 := by omega
        rw [if_neg (show ¬ n < 2 by omega)]
        exact ⟨rfl, by omega, rfl, rfl⟩
      · rw [if_neg l2]
        by_cases c2 : b2 < 128 ∨ 191 < b2
        · left
          rw [if_pos (.inr c2)] at hk ⊢
          rw [if_pos c2]
          refine ⟨.inl (by omega), ?_⟩
          split <;> rfl
        · have cc : ¬ (L ≤ 2 ∨ b2 < 128 ∨ 191 < b2) := by omega
          rw [if_neg cc] at hk ⊢
          rw [if_neg c2]
          by_cases l3 : L ≤ 3
          · right
            rw [if_pos (.inl l3)] at hk ⊢
            rw [if_pos l3]
            obtain rfl : L = 3 := by omega
            rw [if_neg (show ¬ n < 3 by omega)]
            exact ⟨rfl, by omega, rfl, rfl⟩
          · rw [if_neg l3]
            obtain rfl : L = 4 := by omega
            by_cases c3 : b3 < 128 ∨ 191 < b3
            · left
              rw [if_pos (.inr c3)] at hk ⊢
              rw [if_pos c3]
              refine ⟨.inl (by omega), ?_⟩
              split <;> rfl
            · right
              have cc : ¬ (4 ≤ 3 ∨ b3 < 128 ∨ 191 < b3) := by omega
              rw [if_neg cc] at hk ⊢
              rw [if_neg c3, if_neg (show ¬ n < 4 by omega)]
              exact ⟨rfl, by omega, rfl, rfl⟩
def bt (l : List UInt8) (i : Nat) : Nat := (l.getD i 0).toNat
theorem bt_lt (l : List UInt8) (i : Nat) : bt l i < 256 := (l.getD i 0).toNat_lt
theorem bt_out {l : List UInt8} {i : Nat} (h : l.length ≤ i) : bt l i = 0 := by unfold bt; rw [List.getD_eq_getElem?_getD, List.getElem?_eq_none h]; rfl
theorem bg_def (l : List UInt8) : bg l = bgN (bt l 0) (bt l 1) (bt l 2) (bt l 3) := rfl
theorem nb_def (l : List UInt8) : nb l = leadN (bt l 0) := rfl
theorem bg_nb (l : List UInt8) : bg l ≤ nb l := bgN_le _ _ _ _
theorem nb_le (l : List UInt8) : nb l ≤ 4 := leadN_le _
theorem bgN_len (b0 b1 b2 b3 : Nat) : (2 ≤ bgN b0 b1 b2 b3 → 128 ≤ b1 ∧ b1 ≤ 191) ∧ (3 ≤ bgN b0 b1 b2 b3 → 128 ≤ b2 ∧ b2 ≤ 191) ∧ (4 ≤ bgN b0 b1 b2 b3 → 128 ≤ b3 ∧ b3 ≤ 191) := by
  have h1 := leadLo_ge b0
  have h2 := leadHi_le b0
  have h3 := leadN_le b0
  unfold bgN
  generalize leadN b0 = L at *
  generalize leadLo b0 = lo at *
  generalize leadHi b0 = hi at *
  refine ⟨?_, ?_, ?_⟩
  all_goals
    repeat' split
    all_goals omega
/-- the bytes of a beginning behind its first one -/
theorem bg_cont {l : List UInt8} {i : Nat} (h1 : 1 ≤ i) (h : i < bg l) : 128 ≤ bt l i ∧ bt l i ≤ 191 := by
  have hb := bgN_len (bt l 0) (bt l 1) (bt l 2) (bt l 3)
  rw [← bg_def] at hb
  have := bg_nb l
  have := nb_le l
  have : i = 1 ∨ i = 2 ∨ i = 3 := by omega
  rcases this with rfl | rfl | rfl
  · exact hb.1 (by omega)
  · exact hb.2.1 (by omega)
  · exact hb.2.2 (by omega)
theorem bg_len {l : List UInt8} (hl : l ≠ []) : bg l ≤ l.length := by
  have h1 : 1 ≤ l.length := List.length_pos_iff.2 hl
  rcases Nat.lt_or_ge l.length (bg l) with h | h
  · have := bg_cont h1 h
    rw [bt_out (Nat.le_refl _)] at this
    omega
  · exact h
/-- ill-formed, or whole -/
theorem ill_or {l : List UInt8} (hl : l ≠ []) : (ill l = true ∧ (bg l < nb l ∨ nb l = 0) ∧ dc l = 65533 ∧ dw l = 1) ∨
    (ill l = false ∧ bg l = nb l ∧ 1 ≤ nb l ∧ dw l = nb l ∧
      dc l = (if nb l = 1 then bt l 0 else if nb l = 2 then bt l 0 % 32 * 64 + bt l 1 % 64 else if nb l = 3 then bt l 0 % 16 * 4096 + bt l 1 % 64 * 64 + bt l 2 % 64 else bt l 0 % 8 * 262144 + bt l 1 % 64 * 4096 + bt l 2 % 64 * 64 + bt l 3 % 64)) := by
  have h1 : 1 ≤ l.length := List.length_pos_iff.2 hl
  have h := decodeN_bg l.length (bt l 0) (bt l 1) (bt l 2) (bt l 3) h1 (bt_lt _ _) (bt_lt _ _) (bt_lt _ _) (bt_lt _ _) (by rw [← bg_def]; exact bg_len hl)
  have e : decodeN l.length (bt l 0) (bt l 1) (bt l 2) (bt l 3) = decodeL l := (decodeL_N l).symm
  rw [e, ← bg_def, ← nb_def] at h
  rcases h with ⟨a, b⟩ | ⟨a, b, c, d⟩
  · left
    have e1 : dc l = 65533 := by unfold dc; rw [b]
    have e2 : dw l = 1 := by unfold dw; rw [b]
    exact ⟨by simp [ill, e1, e2], a, e1, e2⟩
  · right
    have c' : dw l = nb l := c
    have d' : dc l = _ := d
    refine ⟨?_, a, b, c', d'⟩
    cases hi : ill l with
    | false => rfl
    | true =>
      exfalso
      have hh : dc l = 65533 ∧ dw l = 1 := by simpa [ill] using hi
      rw [c'] at hh
      have hc := hh.1
      rw [d', if_pos hh.2] at hc
      have := bt_lt l 0
      omega
/-- a byte that goes on is ill-formed at a head -/
theorem ill_cont {l : List UInt8} (hl : l ≠ []) (h : 128 ≤ bt l 0 ∧ bt l 0 ≤ 191) : ill l = true ∧ nb l = 0 ∧ dw l = 1 := by
  have e : nb l = 0 := by rw [nb_def]; unfold leadN; rw [if_neg (by omega), if_pos (by omega)]
  rcases ill_or hl with ⟨a, _, _, d⟩ | ⟨_, _, a, _⟩
  · exact ⟨a, e, d⟩
  · omega
theorem bt_drop (l : List UInt8) (k i : Nat) : bt (l.drop k) i = bt l (k + i) := by
  unfold bt
  simp [List.getD_eq_getElem?_getD, List.getElem?_drop]
theorem bt_take {l : List UInt8} {k i : Nat} : bt (l.take k) i = if i < k then bt l i else 0 := by
  unfold bt
  simp only [List.getD_eq_getElem?_getD, List.getElem?_take]
  split <;> simp
/-- a beginning that is cut -/
theorem bg_take {l : List UInt8} {k : Nat} (hk : 1 ≤ k) : bg (l.take k) = min (bg l) k ∧ nb (l.take k) = nb l := by
  have e0 : bt (l.take k) 0 = bt l 0 := by rw [bt_take, if_pos (by omega)]
  refine ⟨?_, by rw [nb_def, nb_def, e0]⟩
  have e1 : bt (l.take k) 1 = if 1 < k then bt l 1 else 0 := bt_take
  have e2 : bt (l.take k) 2 = if 2 < k then bt l 2 else 0 := bt_take
  have e3 : bt (l.take k) 3 = if 3 < k then bt l 3 else 0 := bt_take
  have h1 := leadLo_ge (bt l 0)
  have h2 := leadHi_le (bt l 0)
  have h3 := leadN_le (bt l 0)
  rcases Nat.lt_or_ge 3 k with h | h
  · rw [if_pos (by omega)] at e1 e2 e3
    rw [bg_def, bg_def, e0, e1, e2, e3]
    have := bgN_le (bt l 0) (bt l 1) (bt l 2) (bt l 3)
    omega
  · have : k = 1 ∨ k = 2 ∨ k = 3 := by omega
    rcases this with rfl | rfl | rfl
    · rw [if_neg (by omega)] at e1 e2 e3
      rw [bg_def, bg_def, e0, e1, e2, e3]
      unfold bgN
      repeat' split
      all_goals omega
    · rw [if_pos (by omega)] at e1
      rw [if_neg (by omega)] at e2 e3
      rw [bg_def, bg_def, e0, e1, e2, e3]
      unfold bgN
      repeat' split
      all_goals omega
    · rw [if_pos (by omega)] at e1 e2
      rw [if_neg (by omega)] at e3
      rw [bg_def, bg_def, e0, e1, e2, e3]
      unfold bgN
      repeat' split
      all_goals omega
/-- is a text's first unit settled? -/
def fullP (l : List UInt8) : Bool := decide (l ≠ [] ∧ (bg l = nb l ∨ bg l < l.length))
end Go.Proofs.YtbkimhbpcmbflaaDoor.M
set_option linter.unusedVariables false
set_option linter.unusedSimpArgs false
set_option maxRecDepth 100000
namespace Go.Proofs.YtbkimhbpcmbflaaDoor.M
open Go Go.Lib
/-- how many bytes belong together at an ill-formed head -/
def pl (l : List UInt8) : Nat := max 1 (bg l)
theorem pl_pos (l : List UInt8) : 1 ≤ pl l := Nat.le_max_left _ _
theorem pl_len {l : List UInt8} (h : l ≠ []) : pl l ≤ l.length := by
  have h1 : 1 ≤ l.length := List.length_pos_iff.2 h
  have := bg_len h
  unfold pl; omega
theorem pl_three {l : List UInt8} (h : l ≠ []) (hi : ill l = true) : pl l ≤ 3 := by
  have := bg_nb l
  have := nb_le l
  rcases ill_or h with ⟨_, a, _⟩ | ⟨a, _⟩
  · unfold pl; omega
  · rw [hi] at a; cases a
/-- the pieces: where each begins (what is left of the text there), and how many bytes it has -/
def pieces (l : List UInt8) : List (List UInt8 × Nat) :=
  if h : l = [] then [] else if ill l = true then (l, pl l) :: pieces (l.drop (pl l)) else pieces (l.drop (dw l))
termination_by l.length
decreasing_by
  · have h1 := pl_pos l
    have h2 := List.length_pos_iff.2 h
    simp; omega
  · have h1 := dw_pos h
    have h2 := List.length_pos_iff.2 h
    simp; omega
theorem pieces_nil : pieces [] = [] := by rw [pieces]; simp
theorem pieces_ill {l : List UInt8} (h : l ≠ []) (hi : ill l = true) : pieces l = (l, pl l) :: pieces (l.drop (pl l)) := by rw [pieces]; simp [h, hi]
theorem pieces_ok {l : List UInt8} (h : l ≠ []) (hi : ill l = false) : pieces l = pieces (l.drop (dw l)) := by rw [pieces]; simp [h, hi]
/-- is a cut behind k bytes of an ill-formed head settled? -/
theorem full_cut {t : List UInt8} (hne : t ≠ []) (hi : ill t = true) {k : Nat} (h1 : 1 ≤ k) (hk : k ≤ t.length) : fullP (t.take k) = decide (bg t < k) := by
  have hb := bg_take (l := t) h1
  have hl : (t.take k).length = k := by rw [List.length_take]; omega
  have hn : t.take k ≠ [] := by intro e; rw [e] at hl; simp at hl; omega
  have hx : bg t < nb t ∨ nb t = 0 := by
    rcases ill_or hne with ⟨_, a, _⟩ | ⟨a, _⟩
    · exact a
    · rw [hi] at a; cases a
  have h3 := bg_nb t
  unfold fullP
  rw [hb.1, hb.2, hl]
  by_cases hlt : bg t < k
  · rw [decide_eq_true hlt, decide_eq_true]
    exact ⟨hn, .inr (by omega)⟩
  · rw [decide_eq_false hlt, decide_eq_false]
    rintro ⟨_, h | h⟩ <;> omega
/-- which bytes begin what is ill-formed -/
theorem ill_test {t : List UInt8} (hne : t ≠ []) : ill t = (decide (dw t ≤ 1) && decide (128 ≤ bt t 0)) := by
  rcases ill_or hne with ⟨a, _, _, d⟩ | ⟨a, _, b, d, _⟩
  · have := (ill_b0 hne a).1
    rw [a, d]
    have e : bt t 0 = b0 t := rfl
    simp [e, this]
  · rw [a, d]
    by_cases h : nb t ≤ 1
    · have e : nb t = 1 := by omega
      have : bt t 0 < 128 := by
        rw [nb_def] at e
        unfold leadN at e
        split at e
        · assumption
        · repeat' split at e
          all_goals omega
      simp [e]; omega
    · simp; omega
/-- how far a walk over the units has come: text l, at r what is left; e: the end of the piece that was found last; got: the pieces so far -/
structure At (l r : List UInt8) (e : Nat) (got : List (List UInt8 × Nat)) : Prop where
  suf : ∃ p, r = l.drop p ∧ p + r.length = l.length
  le : e ≤ l.length
  out : l.length - r.length < e → pieces l = got ++ pieces (l.drop e) ∧ ∀ i, l.length - r.length ≤ i → i < e → 128 ≤ bt l i ∧ bt l i ≤ 191
  done : e ≤ l.length - r.length → pieces l = got ++ pieces r
theorem At.start (l : List UInt8) : At l l 0 [] := ⟨⟨0, by simp, by simp⟩, Nat.zero_le _, fun h => by omega, fun _ => by simp⟩
theorem At.next {l r : List UInt8} {p : Nat} (h : r = l.drop p) (hp : p + r.length = l.length) {w : Nat} (hw : w ≤ r.length) : r.drop w = l.drop (p + w) ∧ (p + w) + (r.drop w).length = l.length := by
  subst h
  rw [List.drop_drop]
  exact ⟨rfl, by simp; simp at hp hw; omega⟩
/-- within a piece -/
theorem At.skip {l r : List UInt8} {e : Nat} {got : List (List UInt8 × Nat)} (h : At l r e got) (hne : r ≠ []) (hlt : l.length - r.length < e) : At l (r.drop (dw r)) e got := by
  obtain ⟨p, hr, hp⟩ := h.suf
  have hpl : l.length - r.length = p := by omega
  obtain ⟨ho, hc⟩ := h.out hlt
  rw [hpl] at hc hlt
  have h0 := hc p (Nat.le_refl _) hlt
  have hb : bt r 0 = bt l p := by rw [hr, bt_drop, Nat.add_zero]
  obtain ⟨_, _, hd⟩ := ill_cont hne (by rw [hb]; exact h0)
  have h1 : 1 ≤ r.length := List.length_pos_iff.2 hne
  rw [hd]
  obtain ⟨e1, e2⟩ := At.next hr hp (w := 1) h1
  refine ⟨⟨p + 1, e1, e2⟩, h.le, fun hl => ⟨ho, fun i hi hie => hc i (by omega) hie⟩, fun hl => ?_⟩
  have : e = p + 1 := by omega
  rw [ho, this, e1]
/-- a character -/
theorem At.char {l r : List UInt8} {e : Nat} {got : List (List UInt8 × Nat)} (h : At l r e got) (hne : r ≠ []) (hge : e ≤ l.length - r.length) (hi : ill r = false) : At l (r.drop (dw r)) e got := by
  obtain ⟨p, hr, hp⟩ := h.suf
  have hw := dw_pos hne
  have hwl := dw_len hne
  obtain ⟨e1, e2⟩ := At.next hr hp (w := dw r) hwl
  refine ⟨⟨p + dw r, e1, e2⟩, h.le, fun hl => by omega, fun _ => ?_⟩
  rw [h.done hge, pieces_ok hne hi]
/-- a piece begins -/
theorem At.piece {l r : List UInt8} {e : Nat} {got : List (List UInt8 × Nat)} (h : At l r e got) (hne : r ≠ []) (hge : e ≤ l.length - r.length) (hi : ill r = true) :
    At l (r.drop (dw r)) (l.length - r.length + pl r) (got ++ [(r, pl r)]) ∧ (got ++ [(r, pl r)]) <+: pieces l := by
  obtain ⟨p, hr, hp⟩ := h.suf
  have hpp := pl_pos r
  have hpl := pl_len hne
  have hd : dw r = 1 := by
    rcases ill_or hne with ⟨_, _, _, d⟩ | ⟨a, _⟩
    · exact d
    · rw [hi] at a; cases a
  have h1 : 1 ≤ r.length := List.length_pos_iff.2 hne
  have hpieces : pieces l = (got ++ [(r, pl r)]) ++ pieces (r.drop (pl r)) := by rw [h.done hge, pieces_ill hne hi]; simp
  obtain ⟨e1, e2⟩ := At.next hr hp (w := 1) h1
  obtain ⟨f1, f2⟩ := At.next hr hp (w := pl r) hpl
  have hpos : l.length - r.length = p := by omega
  rw [hd, hpos]
  refine ⟨⟨⟨p + 1, e1, e2⟩, by omega, fun hl => ⟨by rw [hpieces, f1], fun i hi1 hi2 => ?_⟩, fun hl => ?_⟩, ⟨_, hpieces.symm⟩⟩
  · have hb : bt l i = bt r (i - p) := by rw [hr, bt_drop]; congr 1; omega
    rw [hb]
    have hbg : pl r = bg r := by unfold pl at *; omega
    exact bg_cont (by omega) (by omega)
  · have : pl r = 1 := by omega
    rw [hpieces, this]
theorem At.fin {l : List UInt8} {e : Nat} {got : List (List UInt8 × Nat)} (h : At l [] e got) : got = pieces l := by
  have hle := h.le
  have := h.done (by simpa using hle)
  rw [pieces_nil, List.append_nil] at this
  exact this.symm
end Go.Proofs.YtbkimhbpcmbflaaDoor.M
namespace Go.Proofs.YtbkimhbpcmbflaaDoor.M
open Go Go.Lib
/-- the same, as Go's own text asks it -/
def fullN (n X b1 b2 : Nat) : Bool := decide (X % 8 ≤ n) || (decide (1 < n) && (decide (b1 < accLo (X / 16)) || decide (accHi (X / 16) < b1))) || (decide (2 < n) && (decide (b2 < 128) || decide (191 < b2)))
theorem full_N {l : List UInt8} (hne : l ≠ []) : fullP l = fullN l.length (firstT (bt l 0)) (bt l 1) (bt l 2) := by
  have h1 : 1 ≤ l.length := List.length_pos_iff.2 hne
  have hb := bg_len hne
  have hn := bg_nb l
  have h4 := nb_le l
  have e1 : l.length ≤ 1 → bt l 1 = 0 := fun h => bt_out h
  have e2 : l.length ≤ 2 → bt l 2 = 0 := fun h => bt_out h
  have e3 : l.length ≤ 3 → bt l 3 = 0 := fun h => bt_out h
  have hlo := leadLo_ge (bt l 0)
  have hhi := leadHi_le (bt l 0)
  have hp : fullP l = decide (bg l = nb l ∨ bg l < l.length) := by unfold fullP; simp [hne]
  rw [hp]
  unfold fullN
  rw [bg_def, nb_def] at *
  rcases lead_first (bt l 0) (bt_lt l 0) with ⟨f, e, _⟩ | ⟨f, e⟩ | ⟨f, e, g2, e2', e3'⟩
  · have : bgN (bt l 0) (bt l 1) (bt l 2) (bt l 3) = 1 := by unfold bgN; rw [e]; rfl
    rw [this, e, f]; simp
  · have : bgN (bt l 0) (bt l 1) (bt l 2) (bt l 3) = 0 := by unfold bgN; rw [e]; rfl
    rw [this, e, f]
    have : decide (241 % 8 ≤ l.length) = true := by simp; omega
    rw [this]; simp
  · rw [e, e2', e3']
    clear e e2' e3' f hp
    unfold bgN at *
    generalize leadN (bt l 0) = L at *
    generalize leadLo (bt l 0) = lo at *
    generalize leadHi (bt l 0) = hi at *
    generalize bt l 1 = x at *
    generalize bt l 2 = y at *
    generalize bt l 3 = z at *
    generalize l.length = n at *
    rw [Bool.eq_iff_iff]
    simp only [Bool.or_eq_true, Bool.and_eq_true, decide_eq_true_eq]
    repeat' split at *
    all_goals omega
end Go.Proofs.YtbkimhbpcmbflaaDoor.M
set_option linter.unusedVariables false
set_option linter.unusedSimpArgs false
set_option maxRecDepth 100000
namespace Go.Proofs.YtbkimhbpcmbflaaDoor.M
open Go Go.Lib
/-- does a character of just w bytes end the text? -/
def endsC (l : List UInt8) (w : Nat) : Prop := w ≤ l.length ∧ 1 ≤ w ∧ nb (l.drop (l.length - w)) = w ∧ bg (l.drop (l.length - w)) = w
theorem endsC.four {l : List UInt8} {w : Nat} (h : endsC l w) : w ≤ 4 := by have := nb_le (l.drop (l.length - w)); have := h.2.2.1; omega
theorem drop_ne {l : List UInt8} {w : Nat} (h1 : 1 ≤ w) (h : w ≤ l.length) : l.drop (l.length - w) ≠ [] := by
  intro e; have := congrArg List.length e; simp at this; omega
theorem endsC.unit {l : List UInt8} {w : Nat} (h : endsC l w) : dw (l.drop (l.length - w)) = w ∧ ill (l.drop (l.length - w)) = false := by
  obtain ⟨h1, h2, h3, h4⟩ := h
  rcases ill_or (drop_ne h2 h1) with ⟨_, a, _⟩ | ⟨a, _, _, d, _⟩
  · omega
  · exact ⟨by rw [d, h3], a⟩
/-- the bytes of a character that ends the text: the first begins one, the others go on -/
theorem endsC.bytes {l : List UInt8} {w : Nat} (h : endsC l w) : (∀ i, i < w - 1 → 128 ≤ bt l (l.length - 1 - i) ∧ bt l (l.length - 1 - i) ≤ 191) ∧ (1 < w → 192 ≤ bt l (l.length - w)) ∧ (w = 1 → bt l (l.length - 1) < 128) := by
  obtain ⟨h1, h2, h3, h4⟩ := h
  refine ⟨fun i hi => ?_, fun hw => ?_, fun hw => ?_⟩
  · have := bg_cont (l := l.drop (l.length - w)) (i := w - 1 - i) (by omega) (by omega)
    rw [bt_drop] at this
    have e : l.length - w + (w - 1 - i) = l.length - 1 - i := by omega
    rwa [e] at this
  · rw [nb_def, bt_drop, Nat.add_zero] at h3
    unfold leadN at h3
    repeat' split at h3
    all_goals omega
  · subst hw
    rw [nb_def, bt_drop, Nat.add_zero] at h3
    unfold leadN at h3
    repeat' split at h3
    all_goals omega
theorem endsC.unique {l : List UInt8} {w v : Nat} (h : endsC l w) (k : endsC l v) : w = v := by
  have a := h.bytes
  have b := k.bytes
  have h1 := h.2.1
  have k1 := k.2.1
  have h2 := h.1
  have k2 := k.1
  rcases Nat.lt_trichotomy w v with hlt | he | hlt
  · exfalso
    have c := b.1 (w - 1) (by omega)
    have e : l.length - 1 - (w - 1) = l.length - w := by omega
    rw [e] at c
    by_cases h3 : 1 < w
    · have := a.2.1 h3; omega
    · have h4 : w = 1 := by omega
      have := a.2.2 h4
      have e2 : l.length - w = l.length - 1 := by omega
      rw [e2] at c; omega
  · exact he
  · exfalso
    have c := a.1 (v - 1) (by omega)
    have e : l.length - 1 - (v - 1) = l.length - v := by omega
    rw [e] at c
    by_cases h3 : 1 < v
    · have := b.2.1 h3; omega
    · have h4 : v = 1 := by omega
      have := b.2.2 h4
      have e2 : l.length - v = l.length - 1 := by omega
      rw [e2] at c; omega
theorem runeStartB_bt (l : List UInt8) (i : Nat) : runeStartB (l.getD i 0) = !(decide (128 ≤ bt l i ∧ bt l i ≤ 191)) := by
  unfold runeStartB
  show ((bt l i) / 64 != 2) = _
  rw [Bool.eq_iff_iff]
  simp
  omega
/-- what DecodeLastRune makes of a text that is not empty -/
theorem decodeLast_or {l : List UInt8} (hl : l ≠ []) : (∃ w, endsC l w ∧ decodeLastL l = (dc (l.drop (l.length - w)), w)) ∨ ((∀ w, ¬ endsC l w) ∧ decodeLastL l = (65533, 1)) := by
  have hl1 : 1 ≤ l.length := List.length_pos_iff.2 hl
  unfold decodeLastL
  rw [if_neg hl]
  by_cases hb : (l.getD (l.length - 1) 0).toNat < 128
  · rw [if_pos hb]
    left
    have hb' : bt (l.drop (l.length - 1)) 0 < 128 := by rw [bt_drop, Nat.add_zero]; exact hb
    have hn : nb (l.drop (l.length - 1)) = 1 := by rw [nb_def]; unfold leadN; rw [if_pos hb']
    have hbg : bg (l.drop (l.length - 1)) = 1 := by
      rw [bg_def]; unfold bgN; rw [← nb_def, hn]; rfl
    refine ⟨1, ⟨hl1, Nat.le_refl _, hn, hbg⟩, ?_⟩
    rcases ill_or (drop_ne (Nat.le_refl _) hl1) with ⟨_, a, _⟩ | ⟨_, _, _, _, e⟩
    · omega
    · rw [e, if_pos hn, bt_drop, Nat.add_zero]; rfl
  · rw [if_neg hb]
    have hbb : 128 ≤ bt l (l.length - 1) := by have : bt l (l.length - 1) = (l.getD (l.length - 1) 0).toNat := rfl; omega
    have hst : lastStart l < l.length := lastStart_lt' l hl
    obtain ⟨w, hw⟩ : ∃ w, w = l.length - lastStart l := ⟨_, rfl⟩
    have hws : lastStart l = l.length - w := by omega
    have hw1 : 1 ≤ w := by omega
    have hwl : w ≤ l.length := by omega
    show (∃ w', endsC l w' ∧ (if lastStart l + dw (l.drop (lastStart l)) = l.length then decodeL (l.drop (lastStart l)) else (65533, 1)) = _) ∨ (_ ∧ (if lastStart l + dw (l.drop (lastStart l)) = l.length then decodeL (l.drop (lastStart l)) else (65533, 1)) = _)
    have hst2 : lastStart l = lastStart l := rfl
    rw [hws]
    by_cases hd : l.length - w + dw (l.drop (l.length - w)) = l.length
    · rw [if_pos hd]
      have hdw : dw (l.drop (l.length - w)) = w := by omega
      rcases ill_or (drop_ne hw1 hwl) with ⟨_, a, b, c⟩ | ⟨a, b, c, d, e⟩
      · right
        have hw2 : w = 1 := by omega
        refine ⟨fun v hv => ?_, ?_⟩
        · have hv1 := hv.bytes
          have hvl := hv.1
          have hv0 := hv.2.1
          have hv4 := hv.four
          by_cases h1 : v = 1
          · have := hv1.2.2 h1; omega
          · -- the scan goes at least one byte back
            have : l.length = 1 := by
              have hx : lastStart l = l.length - 1 := by omega
              unfold lastStart at hx
              simp only at hx
              repeat' split at hx
              all_goals omega
            omega
        · show (dc (l.drop (l.length - w)), dw (l.drop (l.length - w))) = _
          rw [b, c]
      · left
        exact ⟨w, ⟨hwl, hw1, by omega, by omega⟩, by show (dc (l.drop (l.length - w)), dw (l.drop (l.length - w))) = _; rw [hdw]⟩
    · rw [if_neg hd]
      right
      refine ⟨fun v hv => ?_, rfl⟩
      have hv1 := hv.bytes
      have hvl := hv.1
      have hv0 := hv.2.1
      have hv4 := hv.four
      have h1 : v ≠ 1 := fun h1 => by have := hv1.2.2 h1; omega
      have hsv : lastStart l = l.length - v := by
        have r2 := runeStartB_bt l (l.length - 2)
        have r3 := runeStartB_bt l (l.length - 3)
        have r4 := runeStartB_bt l (l.length - 4)
        have c1 : 2 < v → runeStartB (l.getD (l.length - 2) 0) = false := fun h => by
          rw [r2]; have := hv1.1 1 (by omega); simp; exact this
        have c2 : 3 < v → runeStartB (l.getD (l.length - 3) 0) = false := fun h => by
          rw [r3]; have := hv1.1 2 (by omega); simp; exact this
        have s : runeStartB (l.getD (l.length - v) 0) = true := by
          rw [runeStartB_bt]; have := hv1.2.1 (by omega); simp; omega
        unfold lastStart
        simp only
        have : v = 2 ∨ v = 3 ∨ v = 4 := by omega
        rcases this with rfl | rfl | rfl
        · rw [if_neg (by omega), if_pos s]
        · rw [if_neg (by omega), if_neg (by rw [c1 (by omega)]; decide), if_neg (by omega), if_pos s]
        · rw [if_neg (by omega), if_neg (by rw [c1 (by omega)]; decide), if_neg (by omega), if_neg (by rw [c2 (by omega)]; decide), if_neg (by omega), if_pos s]
      have hwv : w = v := by omega
      subst hwv
      have := hv.unit.1
      omega
/-- the units from r on are the last of l's -/
theorem units_ind {r : List UInt8} (hr : r ≠ []) {Q : List UInt8 → Prop} (h0 : Q r) (h1 : ∀ l, l ≠ [] → (∃ pre, sfx (l.drop (dw l)) = pre ++ sfx r) → Q (l.drop (dw l)) → Q l) : ∀ (pre : List (List UInt8)) (l : List UInt8), sfx l = pre ++ sfx r → Q l
  | [], l, h => by
    by_cases hl : l = []
    · subst hl; rw [sfx_nil, sfx_cons hr] at h; simp at h
    · rw [sfx_cons hl, sfx_cons hr, List.nil_append] at h
      injection h with h _
      rw [h]; exact h0
  | x :: pre, l, h => by
    by_cases hl : l = []
    · subst hl; rw [sfx_nil] at h; simp at h
    · rw [sfx_cons hl, List.cons_append] at h
      injection h with _ h
      exact h1 l hl ⟨pre, h⟩ (units_ind hr h0 h1 pre _ h)
theorem units_drop {l r : List UInt8} {pre : List (List UInt8)} (h : sfx l = pre ++ sfx r) (hr : r ≠ []) : r.length ≤ l.length ∧ r = l.drop (l.length - r.length) := by
  refine units_ind hr (Q := fun l => r.length ≤ l.length ∧ r = l.drop (l.length - r.length)) ⟨Nat.le_refl _, by simp⟩ (fun l hl _ ⟨h1, h2⟩ => ?_) pre l h
  have hw := dw_len hl
  rw [List.length_drop] at h1 h2
  refine ⟨by omega, ?_⟩
  rw [List.drop_drop] at h2
  have e : dw l + (l.length - dw l - r.length) = l.length - r.length := by omega
  rw [e] at h2
  exact h2
theorem endsC.shift {l : List UInt8} {m v d : Nat} (h : endsC (l.take m) v) (hm : m ≤ l.length) (hd : d + v ≤ m) : endsC ((l.drop d).take (m - d)) v := by
  obtain ⟨h1, h2, h3, h4⟩ := h
  have hl : (l.take m).length = m := by rw [List.length_take]; omega
  have hl2 : ((l.drop d).take (m - d)).length = m - d := by rw [List.length_take, List.length_drop]; omega
  rw [hl] at h1 h3 h4
  have e : ((l.drop d).take (m - d)).drop (((l.drop d).take (m - d)).length - v) = (l.take m).drop (m - v) := by
    rw [hl2, List.drop_take, List.drop_take, List.drop_drop]
    congr 1
    · omega
    · congr 1; omega
  exact ⟨by omega, h2, by rw [e]; exact h3, by rw [e]; exact h4⟩
theorem endsC.whole {l : List UInt8} {m v : Nat} (h : endsC (l.take m) v) (hm : m ≤ l.length) : nb (l.drop (m - v)) = v ∧ bg (l.drop (m - v)) = v := by
  obtain ⟨h1, h2, h3, h4⟩ := h
  have hl : (l.take m).length = m := by rw [List.length_take]; omega
  rw [hl] at h1 h3 h4
  have e : (l.take m).drop (m - v) = (l.drop (m - v)).take v := by
    rw [List.drop_take]; congr 1; omega
  rw [e] at h3 h4
  obtain ⟨b1, b2⟩ := bg_take (l := l.drop (m - v)) (k := v) h2
  rw [b1] at h4
  rw [b2] at h3
  have := bg_nb (l.drop (m - v))
  exact ⟨h3, by omega⟩
theorem units_cut {l r : List UInt8} {pre : List (List UInt8)} (h : sfx l = pre ++ sfx r) (hr : r ≠ []) : ∀ v, 2 ≤ v → ¬ endsC (l.take (l.length - r.length + 1)) v := by
  have hr1 : 1 ≤ r.length := List.length_pos_iff.2 hr
  refine units_ind hr (Q := fun l => ∀ v, 2 ≤ v → ¬ endsC (l.take (l.length - r.length + 1)) v) (fun v hv hc => ?_) (fun l hl hex ih v hv hc => ?_) pre l h
  · have := hc.1
    rw [List.length_take] at this
    omega
  · obtain ⟨pre', hp⟩ := hex
    obtain ⟨d1, d2⟩ := units_drop hp hr
    have hw := dw_pos hl
    have hwl := dw_len hl
    rw [List.length_drop] at d1 d2
    obtain ⟨p, hpp⟩ : ∃ p, p = l.length - r.length := ⟨_, rfl⟩
    rw [← hpp] at hc
    have hml : p + 1 ≤ l.length := by omega
    have hwp : dw l ≤ p := by omega
    have hv1 := hc.1
    rw [List.length_take] at hv1
    rcases Nat.lt_or_ge (p + 1 - v) (dw l) with hq | hq
    · obtain ⟨w1, w2⟩ := hc.whole hml
      rcases Nat.eq_zero_or_pos (p + 1 - v) with h0 | h0
      · rw [h0, List.drop_zero] at w1 w2
        rcases ill_or hl with ⟨_, a, _⟩ | ⟨_, _, _, d, _⟩
        · omega
        · omega
      · have hb := hc.bytes.2.1 (by omega)
        have hl2 : (l.take (p + 1)).length = p + 1 := by rw [List.length_take]; omega
        rw [hl2, bt_take, if_pos (by omega)] at hb
        rcases ill_or hl with ⟨_, _, _, d⟩ | ⟨_, b, _, d, _⟩
        · omega
        · have := bg_cont (l := l) (i := p + 1 - v) (by omega) (by omega)
          omega
    · have hs := hc.shift hml (d := dw l) (by omega)
      have hpos : (l.drop (dw l)).length - r.length + 1 = p + 1 - dw l := by rw [List.length_drop]; omega
      exact ih v hv (by rw [hpos]; exact hs)
/-- a unit, read from behind -/
theorem decodeLast_unit {l r : List UInt8} {pre : List (List UInt8)} (h : sfx l = pre ++ sfx r) (hr : r ≠ []) : decodeLastL (l.take (l.length - r.length + dw r)) = (dc r, dw r) := by
  obtain ⟨d1, d2⟩ := units_drop h hr
  have hw := dw_pos hr
  have hwl := dw_len hr
  obtain ⟨p, hpp⟩ : ∃ p, p = l.length - r.length := ⟨_, rfl⟩
  rw [← hpp] at d2 ⊢
  have hlen : (l.take (p + dw r)).length = p + dw r := by rw [List.length_take]; omega
  have hne : l.take (p + dw r) ≠ [] := by intro e; rw [e] at hlen; simp at hlen; omega
  have hcut : (l.take (p + dw r)).drop p = r.take (dw r) := by rw [List.drop_take, ← d2]; congr 1; omega
  have hb := bg_take (l := r) (k := dw r) hw
  rcases ill_or hr with ⟨a, _, c, d⟩ | ⟨a, b, c, d, e⟩
  · have hcutv := units_cut h hr
    rw [← hpp] at hcutv
    rw [c, d]
    rw [d] at hlen hne hcut
    rcases decodeLast_or hne with ⟨v, hv, _⟩ | ⟨_, hd⟩
    · exfalso
      have hv0 := hv.2.1
      rcases Nat.lt_or_ge 1 v with h2 | h2
      · exact hcutv v h2 hv
      · have h1 : v = 1 := by omega
        have := hv.bytes.2.2 h1
        rw [hlen, bt_take, if_pos (by omega)] at this
        have hi := (ill_b0 hr a).1
        have e : b0 r = bt l p := by show bt r 0 = _; rw [d2, bt_drop]; congr 1
        have e2 : p + 1 - 1 = p := by omega
        rw [e2] at this
        omega
    · exact hd
  · have hends : endsC (l.take (p + dw r)) (dw r) := by
      refine ⟨by omega, hw, ?_, ?_⟩
      · rw [hlen, Nat.add_sub_cancel, hcut, hb.2, d]
      · rw [hlen, Nat.add_sub_cancel, hcut, hb.1, b, d, Nat.min_self]
    rcases decodeLast_or hne with ⟨v, hv, hd⟩ | ⟨hv, _⟩
    · obtain rfl := hv.unique hends
      rw [hd, hlen, Nat.add_sub_cancel, hcut]
      have hn2 : r.take (dw r) ≠ [] := by intro e; have := congrArg List.length e; rw [List.length_take, List.length_nil] at this; omega
      rcases ill_or hn2 with ⟨_, x, _⟩ | ⟨_, _, _, _, y⟩
      · rw [hb.1, hb.2] at x; omega
      · rw [y, hb.2]
        have e0 : bt (r.take (dw r)) 0 = bt r 0 := by rw [bt_take, if_pos (by omega)]
        have e1 : 2 ≤ nb r → bt (r.take (dw r)) 1 = bt r 1 := fun h => by rw [bt_take, if_pos (by omega)]
        have e2 : 3 ≤ nb r → bt (r.take (dw r)) 2 = bt r 2 := fun h => by rw [bt_take, if_pos (by omega)]
        have e3 : 4 ≤ nb r → bt (r.take (dw r)) 3 = bt r 3 := fun h => by rw [bt_take, if_pos (by omega)]
        have h4 := nb_le r
        rw [e, e0]
        have n1 : ∀ k j : Nat, nb r = k → k ≠ j → ¬ nb r = j := fun k j h hk hj => hk (h.symm.trans hj)
        have : nb r = 1 ∨ nb r = 2 ∨ nb r = 3 ∨ nb r = 4 := by omega
        rcases this with h | h | h | h
        · rw [if_pos h, if_pos h]
        · rw [if_neg (n1 2 1 h (by decide)), if_pos h, if_neg (n1 2 1 h (by decide)), if_pos h, e1 (by omega)]
        · rw [if_neg (n1 3 1 h (by decide)), if_neg (n1 3 2 h (by decide)), if_pos h, if_neg (n1 3 1 h (by decide)), if_neg (n1 3 2 h (by decide)), if_pos h, e1 (by omega), e2 (by omega)]
        · rw [if_neg (n1 4 1 h (by decide)), if_neg (n1 4 2 h (by decide)), if_neg (n1 4 3 h (by decide)), if_neg (n1 4 1 h (by decide)), if_neg (n1 4 2 h (by decide)), if_neg (n1 4 3 h (by decide)), e1 (by omega), e2 (by omega), e3 (by omega)]
    · exact absurd hends (hv _)
end Go.Proofs.YtbkimhbpcmbflaaDoor.M
set_option linter.unusedVariables false
set_option linter.unusedSimpArgs false
set_option maxRecDepth 100000
namespace Go.Proofs.YtbkimhbpcmbflaaDoor.M
open Go Go.Lib
/-- one piece more: what stands ahead of it, and what is put in its place; how far the text is done -/
def mstep (l : List UInt8) (rep : Nat → List UInt8) (a : List UInt8 × Nat) (x : List UInt8 × Nat) : List UInt8 × Nat :=
  (a.1 ++ ((l.take (l.length - x.1.length)).drop a.2 ++ rep x.2), l.length - x.1.length + x.2)
def mfold (l : List UInt8) (rep : Nat → List UInt8) (pre : List (List UInt8 × Nat)) : List UInt8 × Nat := pre.foldl (mstep l rep) ([], 0)
theorem mfold_snoc (l : List UInt8) (rep : Nat → List UInt8) (pre : List (List UInt8 × Nat)) (x : List UInt8 × Nat) : mfold l rep (pre ++ [x]) = mstep l rep (mfold l rep pre) x := by
  unfold mfold; rw [List.foldl_append]; rfl
/-- a text mended -/
def mend (l : List UInt8) (rep : Nat → List UInt8) : List UInt8 := (mfold l rep (pieces l)).1 ++ l.drop (mfold l rep (pieces l)).2
theorem sfx_rec {Q : List UInt8 → Prop} (h0 : Q []) (h1 : ∀ l, l ≠ [] → ill l = true → Q l) (h2 : ∀ l, l ≠ [] → ill l = false → Q (l.drop (dw l)) → Q l) : ∀ l, Q l := by
  intro l
  induction l using sfx_ind with
  | h0 => exact h0
  | h1 l hl ih =>
    cases hi : ill l with
    | true => exact h1 l hl hi
    | false => exact h2 l hl hi ih
/-- the first piece of a text -/
theorem first_piece (r : List UInt8) : ∀ x more, pieces r = x :: more → ∃ k, x.1 = r.drop k ∧ k + x.1.length = r.length ∧ x.1 ≠ [] ∧ x.2 = pl x.1 ∧ more = pieces (x.1.drop x.2) := by
  induction r using sfx_rec with
  | h0 => intro x more h; rw [pieces_nil] at h; cases h
  | h1 l hl hi =>
    intro x more h
    rw [pieces_ill hl hi] at h
    injection h with h1 h2
    subst h1
    exact ⟨0, by simp, by simp, hl, rfl, h2.symm⟩
  | h2 l hl hi ih =>
    intro x more h
    rw [pieces_ok hl hi] at h
    obtain ⟨k, h1, h2, h3⟩ := ih x more h
    have hw := dw_len hl
    refine ⟨dw l + k, by rw [h1, List.drop_drop], ?_, h3⟩
    rw [List.length_drop] at h2
    omega
/-- what the mending knows between two pieces -/
structure MAt (l : List UInt8) (rep : Nat → List UInt8) (pre : List (List UInt8 × Nat)) : Prop where
  rest : pieces l = pre ++ pieces (l.drop (mfold l rep pre).2)
  le : (mfold l rep pre).2 ≤ l.length
theorem MAt.start (l : List UInt8) (rep : Nat → List UInt8) : MAt l rep [] := ⟨by simp [mfold], Nat.zero_le _⟩
theorem MAt.next {l : List UInt8} {rep : Nat → List UInt8} {pre : List (List UInt8 × Nat)} {x : List UInt8 × Nat} (h : MAt l rep pre) (hp : (pre ++ [x]) <+: pieces l) :
    MAt l rep (pre ++ [x]) ∧ (mfold l rep pre).2 ≤ l.length - x.1.length ∧ x.1.length ≤ l.length ∧ x.2 ≤ x.1.length ∧ x.1 ≠ [] ∧ x.2 = pl x.1 ∧ ill x.1 = ill x.1 := by
  obtain ⟨t, ht⟩ := hp
  have hr := h.rest
  have hle := h.le
  rw [hr, List.append_assoc] at ht
  have ht2 := (List.append_cancel_left ht).symm
  rw [List.cons_append, List.nil_append] at ht2
  obtain ⟨k, h1, h2, h3, h4, h5⟩ := first_piece _ x t ht2
  rw [List.length_drop] at h2
  have hx2 : x.2 ≤ x.1.length := by rw [h4]; exact pl_len h3
  refine ⟨⟨?_, ?_⟩, by omega, by omega, hx2, h3, h4, rfl⟩
  · have e1 : l.length - x.1.length = (mfold l rep pre).2 + k := by omega
    have e : l.drop (l.length - x.1.length + x.2) = x.1.drop x.2 := by
      rw [e1]
      conv => rhs; rw [h1]
      rw [List.drop_drop, List.drop_drop]
      congr 1
      omega
    rw [mfold_snoc, hr, ht2, h5]
    simp only [mstep, List.append_assoc, List.cons_append, List.nil_append]
    rw [e]
  · rw [mfold_snoc]
    simp only [mstep]
    omega
theorem pieces_count (l : List UInt8) : (pieces l).length ≤ l.length := by
  suffices ∀ n (l : List UInt8), l.length ≤ n → (pieces l).length ≤ l.length from this _ l (Nat.le_refl _)
  intro n
  induction n with
  | zero => intro l hl; have : l = [] := List.eq_nil_of_length_eq_zero (by omega); subst this; simp [pieces_nil]
  | succ n ih =>
    intro l hl
    by_cases h : l = []
    · subst h; simp [pieces_nil]
    · have h1 := List.length_pos_iff.2 h
      cases hi : ill l with
      | true =>
        rw [pieces_ill h hi]
        have hp := pl_pos l
        have := ih (l.drop (pl l)) (by rw [List.length_drop]; omega)
        rw [List.length_drop] at this
        simp only [List.length_cons]
        omega
      | false =>
        rw [pieces_ok h hi]
        have hp := dw_pos h
        have := ih (l.drop (dw l)) (by rw [List.length_drop]; omega)
        rw [List.length_drop] at this
        omega
theorem snoc_rec {α : Type} {Q : List α → Prop} (h0 : Q []) (h1 : ∀ l x, Q l → Q (l ++ [x])) (l : List α) : Q l := by
  have : ∀ r : List α, Q r.reverse := fun r => by
    induction r with
    | nil => exact h0
    | cons x r ih => rw [List.reverse_cons]; exact h1 _ _ ih
  have := this l.reverse
  rwa [List.reverse_reverse] at this
theorem pieces_three : ∀ r : List UInt8, ∀ y ∈ pieces r, pl y.1 ≤ 3 := by
  intro r
  suffices ∀ n (r : List UInt8), r.length ≤ n → ∀ y ∈ pieces r, pl y.1 ≤ 3 from this _ r (Nat.le_refl _)
  intro n
  induction n with
  | zero => intro r hr y hy; have : r = [] := List.eq_nil_of_length_eq_zero (by omega); subst this; rw [pieces_nil] at hy; cases hy
  | succ n ihn =>
    intro r hr y hy
    by_cases h : r = []
    · subst h; rw [pieces_nil] at hy; cases hy
    · have h1 := List.length_pos_iff.2 h
      cases hi : ill r with
      | true =>
        rw [pieces_ill h hi] at hy
        rcases List.mem_cons.1 hy with rfl | hy
        · exact pl_three h hi
        · have := pl_pos r
          exact ihn _ (by rw [List.length_drop]; omega) y hy
      | false =>
        rw [pieces_ok h hi] at hy
        have := dw_pos h
        exact ihn _ (by rw [List.length_drop]; omega) y hy
theorem mfold_len {l : List UInt8} {rep : Nat → List UInt8} {M : Nat} (hM : ∀ n, n ≤ 3 → (rep n).length ≤ M) : ∀ pre, pre <+: pieces l → (mfold l rep pre).1.length ≤ (mfold l rep pre).2 + pre.length * M ∧ MAt l rep pre := by
  intro pre
  induction pre using snoc_rec with
  | h0 => intro _; exact ⟨by simp [mfold], MAt.start _ _⟩
  | h1 pre x ih =>
    intro hp
    obtain ⟨i1, i2⟩ := ih (List.IsPrefix.trans ⟨[x], rfl⟩ hp)
    obtain ⟨n1, n2, n3, n4, n5, n6, _⟩ := i2.next hp
    refine ⟨?_, n1⟩
    rw [mfold_snoc]
    have hx3 : x.2 ≤ 3 := by
      have hi : x ∈ pieces l := hp.subset (by simp)
      rw [n6]
      exact pieces_three l x hi
    have hr := hM x.2 hx3
    simp only [mstep, List.length_append, List.length_drop, List.length_take, List.length_singleton]
    have e : (pre.length + 1) * M = pre.length * M + M := by rw [Nat.add_mul, Nat.one_mul]
    omega
end Go.Proofs.YtbkimhbpcmbflaaDoor.M
set_option linter.unusedVariables false
namespace Go.Proofs.YtbkimhbpcmbflaaDoor.Z
open Go Go.RowKit
/-- blocks outside Z lie as they lay -/
structure Keeps (Z : Nat → Prop) (W W' : World) : Prop where
  os : W'.os = W.os
  tape : W'.tape = W.tape
  output : W'.output = W.output
  size : W.heap.size ≤ W'.heap.size
  block : ∀ k, k < W.heap.size → ¬ Z k → W'.heap[k]? = W.heap[k]?
theorem lt_of_obj {W : World} {k : Nat} {o : Obj} (h : W.heap[k]? = some o) : k < W.heap.size := (Array.getElem?_eq_some_iff.1 h).1
namespace Keeps
theorem refl (Z : Nat → Prop) (W : World) : Keeps Z W W := ⟨rfl, rfl, rfl, Nat.le_refl _, fun _ _ _ => rfl⟩
theorem mono {Z Z' : Nat → Prop} {W W' : World} (h : Keeps Z W W') (hz : ∀ k, k < W.heap.size → Z k → Z' k) : Keeps Z' W W' :=
  ⟨h.os, h.tape, h.output, h.size, fun k hk hn => h.block k hk (fun z => hn (hz k hk z))⟩
theorem trans {Z Z' : Nat → Prop} {A B C : World} (h : Keeps Z A B) (k : Keeps Z' B C) (hz : ∀ i, i < A.heap.size → Z' i → Z i) : Keeps Z A C :=
  ⟨k.os.trans h.os, k.tape.trans h.tape, k.output.trans h.output, Nat.le_trans h.size k.size,
    fun i hi hn => (k.block i (Nat.lt_of_lt_of_le hi h.size) (fun z => hn (hz i hi z))).trans (h.block i hi hn)⟩
theorem of_below {B : Nat} {Z : Nat → Prop} {W W' : World} (h : Below B W W') (hz : ∀ k, k < W.heap.size → B ≤ k → Z k) : Keeps Z W W' :=
  ⟨h.os, h.tape, h.output, h.size, fun k hk hn => h.block k (Nat.lt_of_not_le fun hb => hn (hz k hk hb))⟩
theorem below {B : Nat} {Z : Nat → Prop} {W W' : World} (h : Keeps Z W W') (hB : B ≤ W.heap.size) (hz : ∀ k, Z k → B ≤ k) : Below B W W' :=
  ⟨h.os, h.tape, h.output, h.size, fun k hk => h.block k (Nat.lt_of_lt_of_le hk hB) (fun z => by have := hz k z; omega)⟩
theorem of_grownBy {row : Option Nat} {Z : Nat → Prop} {W W' : World} (h : W.grownBy W' row) (hz : ∀ r, row = some r → Z r) : Keeps Z W W' :=
  ⟨h.os, h.tape, h.output, h.size, fun k hk hn => h.block k hk (fun e => hn (hz k e.symm))⟩
theorem alloc (Z : Nat → Prop) (W : World) (o : Obj) : Keeps Z W (W.alloc o) := of_grownBy (World.grownBy_alloc W o none) (fun _ e => by cases e)
theorem putObj {Z : Nat → Prop} (W : World) (l : Nat) (o : Obj) (h : Z l) : Keeps Z W (W.putObj l o) := of_grownBy (grownBy_putObj' W l o) (fun _ e => by cases e; exact h)
theorem setCell {Z : Nat → Prop} (W : World) (a : Addr) (v : Value) (h : Z a.block) : Keeps Z W (W.setCell a v) :=
  ⟨rfl, rfl, rfl, by show W.heap.size ≤ (W.heap.modify _ _).size; rw [Array.size_modify]; exact Nat.le_refl _, fun k _ hn => Below.heap_setCell W a v k (fun e => hn (by rw [e]; exact h))⟩
theorem obj {Z : Nat → Prop} {W W' : World} (h : Keeps Z W W') {k : Nat} {o : Obj} (ho : W.heap[k]? = some o) (hn : ¬ Z k) : W'.heap[k]? = some o := (h.block k (lt_of_obj ho) hn).trans ho
theorem cell {Z : Nat → Prop} {W W' : World} (h : Keeps Z W W') {a : Addr} {v : Value} (hc : W.cell? a = some v) (hn : ¬ Z a.block) : W'.cell? a = some v :=
  (World.cell?_of_block (h.block a.block (World.block_lt_of_cell? W a hc) hn)).trans hc
end Keeps
/-- a step of whoever owns Z (and may turn X besides): all else lies as it lay; what is owned more is new -/
structure Step (X Z Z' : Nat → Prop) (W W' : World) : Prop where
  keeps : Keeps (fun k => Z k ∨ X k) W W'
  new : ∀ k, Z' k → Z k ∨ W.heap.size ≤ k
  lt : ∀ k, Z' k → k < W'.heap.size
def none' : Nat → Prop := fun _ => False
theorem Step.trans {X Z Z1 Z2 : Nat → Prop} {A B C : World} (h : Step X Z Z1 A B) (k : Step X Z1 Z2 B C) : Step X Z Z2 A C :=
  ⟨h.keeps.trans k.keeps (fun i hi z => z.elim (fun z1 => (h.new i z1).elim .inl (fun h' => by omega)) .inr),
    fun i z => (k.new i z).elim (fun z1 => h.new i z1) (fun h' => .inr (Nat.le_trans h.keeps.size h')), k.lt⟩
theorem Step.wide {X Z Z' : Nat → Prop} {W W' : World} (h : Step none' Z Z' W W') : Step X Z Z' W W' :=
  ⟨h.keeps.mono (fun k _ z => z.elim .inl (fun z => z.elim)), h.new, h.lt⟩
theorem Step.pre {X Z Z' : Nat → Prop} {A B C : World} (h : Keeps X A B) (k : Step X Z Z' B C) (hz : ∀ i, Z i → i < A.heap.size) : Step X Z Z' A C :=
  ⟨(h.mono (fun _ _ x => .inr x)).trans k.keeps (fun _ _ z => z), fun i z => (k.new i z).elim .inl (fun h' => .inr (Nat.le_trans h.size h')), k.lt⟩
theorem Step.post {X Z Z' : Nat → Prop} {A B C : World} (h : Step X Z Z' A B) (k : Keeps X B C) : Step X Z Z' A C :=
  ⟨h.keeps.trans k (fun _ _ x => .inr x), h.new, fun i z => Nat.lt_of_lt_of_le (h.lt i z) k.size⟩
theorem Step.same {X Z : Nat → Prop} {W W' : World} (h : Keeps (fun k => Z k ∨ X k) W W') (hz : ∀ k, Z k → k < W.heap.size) : Step X Z Z W W' :=
  ⟨h, fun _ z => .inl z, fun k z => Nat.lt_of_lt_of_le (hz k z) h.size⟩
/-- J outlives whatever is done to blocks from B on that it does not own -/
def AbidesZ {α : Type} (B : Nat) (J : α → World → (Nat → Prop) → Prop) : Prop :=
  ∀ s W W' Y Z, J s W Z → Keeps Y W W' → (∀ k, Y k → ¬ Z k ∧ B ≤ k) → J s W' Z
variable {P : Program}
/-- an iterator's contract: it hands 'full', one by one, to whatever loop; it reads the blocks Rb, of which it knows Rd -/
def SeqZ {α : Type} (P : Program) (gf : FuncId) (lb : Array Value) (encs : α → Array Value) (full : List α) (Rd : World → Prop) (Rb : Nat → Prop) : Prop :=
  ∀ (l : Nat) (J Jx : List α → World → (Nat → Prop) → Prop) (W : World) (Z : Nat → Prop),
    Rd W → l < W.heap.size → (∀ k, Rb k → k < W.heap.size ∧ ¬ Z k ∧ k ≠ l) → (∀ k, Z k → k < W.heap.size) →
    AbidesZ W.heap.size J → AbidesZ W.heap.size Jx →
    (∀ m pre x A ZZ, J pre A ZZ → (∀ k, ZZ k → k < A.heap.size) → W.heap.size ≤ A.heap.size → (pre ++ [x]) <+: full → YieldAt Fence.wide m P l (encs x) A fun e B =>
      ∃ Z', Step (fun k => k = l) ZZ Z' A B ∧ ((e = .returned (.bool true) ∧ J (pre ++ [x]) B Z') ∨ (e = .returned (.bool false) ∧ Jx (pre ++ [x]) B Z'))) →
    J [] W Z →
    Calls P gf (#[.func (.yield l) #[] #[]] ++ lb) W fun e W' => (∃ v, e = .returned v) ∧ ∃ Z', Step (fun k => k = l) Z Z' W W' ∧ (J full W' Z' ∨ ∃ pre, pre <+: full ∧ Jx pre W' Z')
/-- how the body of a round may be left -/
def postZ {α : Type} (I : List α → World → (Nat → Prop) → Prop) (Ix : Code → List α → World → (Nat → Prop) → Prop) (xs : List α) (Z : Nat → Prop) (W : World) : Exit → Act → World → Prop
  | .normal, _, W' => ∃ Z', Step none' Z Z' W W' ∧ I xs W' Z'
  | .ret, _, W' => ∃ Z', Step none' Z Z' W W' ∧ Ix .ret xs W' Z'
  | .exit id, _, W' => ∃ Z', Step none' Z Z' W W' ∧ Ix (.exit id) xs W' Z'
  | .goto t, _, W' => ∃ Z', Step none' Z Z' W W' ∧ Ix (.goto t) xs W' Z'
  | .panic _, _, _ => False
  | .outgrown, _, _ => False
/-- a loop's record -/
def lrec (fn : FuncId) (tm : Array Value) (ps : Array Tmp) (assign body : Code) (D : Nat) (st : LoopState) (pe : Option Code) : Loop := { state := st, pending := pe, fn, tmps := tm, params := ps, assign, body, defers := D }
/-- one round, as the caller walks it -/
def RoundZ {α : Type} (P : Program) (n l : Nat) (full : List α) (encs : α → Array Value) (tm : Array Value) (ps : Array Tmp) (assign body : Code) (B : Nat) (I : List α → World → (Nat → Prop) → Prop) (Ix : Code → List α → World → (Nat → Prop) → Prop) : Prop :=
  ∀ pre x A ZZ, l < A.heap.size → ¬ ZZ l → (∃ r, A.heap[l]? = some (.loop r)) → I pre A ZZ → (∀ k, ZZ k → k < A.heap.size) → B ≤ l → (pre ++ [x]) <+: full →
    assign.wpIn (Fence.wide.inRound l) n P (Exit.then (fun a₁ A1 => Keeps none' A A1 ∧ ∀ A2, Keeps (fun k => k = l) A1 A2 → (∃ r, A2.heap[l]? = some (.loop r)) → I pre A2 ZZ →
      body.wpIn (Fence.wide.inRound l) n P (postZ I Ix (pre ++ [x]) ZZ A2) a₁ A2) (fun _ _ _ => False))
      { tmps := (ps.zip (encs x)).foldl (fun t (p, v) => t.setIfInBounds p v) tm, defers := [] } A
theorem core {α : Type} {n : Nat} {ps : Array Tmp} {assign body : Code} {tm : Array Value} {gf : FuncId} {lb : Array Value} {encs : α → Array Value} {full : List α} {Rd : World → Prop} {Rb : Nat → Prop}
    (hseq : SeqZ P gf lb encs full Rd Rb) (hps : ∀ x, (encs x).size = ps.size) (I : List α → World → (Nat → Prop) → Prop) (Ix : Code → List α → World → (Nat → Prop) → Prop) (W : World) (Z : Nat → Prop) (l b : Nat) (fn : FuncId) (D : Nat)
    (hl : W.heap[l]? = some (.loop (lrec fn tm ps assign body D .ready none))) (hbl : b ≤ l) (hZ : ∀ k, Z k → k < W.heap.size) (hZl : ¬ Z l) (hRd : Rd W) (hRb : ∀ k, Rb k → k < W.heap.size ∧ ¬ Z k ∧ k ≠ l)
    (hI : AbidesZ b I) (hIx : ∀ c, AbidesZ b (Ix c)) (hround : RoundZ P n l full encs tm ps assign body b I Ix) (h0 : I [] W Z) :
    Calls P gf (#[.func (.yield l) #[] #[]] ++ lb) W fun e W2 => (∃ v, e = .returned v) ∧ ∃ Z', Step (fun k => k = l) Z Z' W W2 ∧ ((I full W2 Z' ∧ W2.heap[l]? = some (.loop (lrec fn tm ps assign body D .ready none))) ∨ ∃ c pre, pre <+: full ∧ Ix c pre W2 Z' ∧ W2.heap[l]? = some (.loop (lrec fn tm ps assign body D .done (some c)))) := by
  have hlt := lt_of_obj hl
  refine (hseq l (fun pre A ZZ => I pre A ZZ ∧ A.heap[l]? = some (.loop (lrec fn tm ps assign body D .ready none)) ∧ ¬ ZZ l)
    (fun pre A ZZ => ∃ c, Ix c pre A ZZ ∧ A.heap[l]? = some (.loop (lrec fn tm ps assign body D .done (some c))) ∧ ¬ ZZ l) W Z hRd hlt hRb hZ ?_ ?_ ?_ ⟨h0, hl, hZl⟩).mono ?_
  · rintro pre A B Y ZZ ⟨hi, hr, hz⟩ hk hy
    exact ⟨hI _ _ _ Y _ hi hk (fun k y => ⟨(hy k y).1, by have := (hy k y).2; omega⟩), hk.obj hr (fun y => by have := (hy l y).2; omega), hz⟩
  · rintro pre A B Y ZZ ⟨c, hi, hr, hz⟩ hk hy
    exact ⟨c, hIx c _ _ _ Y _ hi hk (fun k y => ⟨(hy k y).1, by have := (hy k y).2; omega⟩), hk.obj hr (fun y => by have := (hy l y).2; omega), hz⟩
  · rintro m pre x A ZZ ⟨hi, hr, hz⟩ hzz hsz hpre
    have hlA := lt_of_obj hr
    have hy := run_yield (P := P) (args := encs x) hr (hps x)
    suffices hh : RoundIn Fence.wide n P l _ _ _ _ A _ from ⟨_, _, _, _, hy, ⟨hh.1, fun c cs _ => hh.2 c cs (room_wide _)⟩⟩
    refine roundIn_of_wpIn trivial ?_
    refine wpIn_mono (hround pre x A ZZ hlA hz ⟨_, hr⟩ hi hzz hbl hpre) ?_
    rintro e a1 A1 hp
    cases e with
    | normal =>
      obtain ⟨hk1, hbody⟩ := hp
      have hr1 := hk1.obj hr (fun h => h)
      have hl1 := lt_of_obj hr1
      refine ⟨_, run_beginRound hr1 rfl, ?_⟩
      have hr2 : (A1.putObj l (.loop { lrec fn tm ps assign body D .ready none with state := .busy })).heap[l]? = some (.loop { lrec fn tm ps assign body D .ready none with state := .busy }) := World.putObj_heap_same hl1
      have hk2 : Keeps (fun k => k = l) A1 (A1.putObj l (.loop { lrec fn tm ps assign body D .ready none with state := .busy })) := Keeps.putObj _ _ _ rfl
      have hk12 := (hk1.mono (Z' := fun k => k = l) (fun _ _ h => h.elim)).trans hk2 (fun _ _ h => h)
      generalize A1.putObj l (.loop { lrec fn tm ps assign body D .ready none with state := .busy }) = A2 at hr2 hk2 hk12 ⊢
      have hl2 := lt_of_obj hr2
      refine wpIn_mono (hbody A2 hk2 ⟨_, hr2⟩ (hI _ _ _ (fun k => k = l) _ hi hk12 (fun k y => by subst y; exact ⟨hz, hbl⟩))) ?_
      have fin : ∀ (jump : Option Code) (B : World) (Z' : Nat → Prop), Step none' ZZ Z' A2 B →
          (Instr.endRound l jump).run P B = .ok (.bool jump.isNone) (B.putObj l (.loop (lrec fn tm ps assign body D (if jump.isNone then .ready else .done) jump))) ∧
          (B.putObj l (.loop (lrec fn tm ps assign body D (if jump.isNone then .ready else .done) jump))).heap[l]? = some (.loop (lrec fn tm ps assign body D (if jump.isNone then .ready else .done) jump)) ∧
          Step (fun k => k = l) ZZ Z' A (B.putObj l (.loop (lrec fn tm ps assign body D (if jump.isNone then .ready else .done) jump))) ∧ ¬ Z' l ∧ Keeps (fun k => k = l) B (B.putObj l (.loop (lrec fn tm ps assign body D (if jump.isNone then .ready else .done) jump))) := fun jump B Z' hst => by
        have hrB := hst.keeps.obj hr2 (fun h => h.elim hz (fun h => h))
        have hkB : Keeps (fun k => k = l) B (B.putObj l (.loop (lrec fn tm ps assign body D (if jump.isNone then .ready else .done) jump))) := Keeps.putObj _ _ _ rfl
        refine ⟨run_endRound jump hrB, World.putObj_heap_same (lt_of_obj hrB), Step.pre hk12 (Step.post hst.wide hkB) hzz, fun h => ?_, hkB⟩
        exact (hst.new l h).elim hz (fun h' => by omega)
      rintro e a3 B hp
      cases e with
      | normal =>
        obtain ⟨Z', hst, hi'⟩ := hp
        obtain ⟨q1, q2, q3, q4, q5⟩ := fin none B Z' hst
        exact ⟨_, _, q1, Z', q3, .inl ⟨rfl, hI _ _ _ _ _ hi' q5 (fun k y => by subst y; exact ⟨q4, hbl⟩), q2, q4⟩⟩
      | ret =>
        obtain ⟨Z', hst, hi'⟩ := hp
        obtain ⟨q1, q2, q3, q4, q5⟩ := fin (some .ret) B Z' hst
        exact ⟨_, _, q1, Z', q3, .inr ⟨rfl, _, hIx _ _ _ _ _ _ hi' q5 (fun k y => by subst y; exact ⟨q4, hbl⟩), q2, q4⟩⟩
      | exit id =>
        obtain ⟨Z', hst, hi'⟩ := hp
        obtain ⟨q1, q2, q3, q4, q5⟩ := fin (some (.exit id)) B Z' hst
        exact ⟨_, _, q1, Z', q3, .inr ⟨rfl, _, hIx _ _ _ _ _ _ hi' q5 (fun k y => by subst y; exact ⟨q4, hbl⟩), q2, q4⟩⟩
      | goto t =>
        obtain ⟨Z', hst, hi'⟩ := hp
        obtain ⟨q1, q2, q3, q4, q5⟩ := fin (some (.goto t)) B Z' hst
        exact ⟨_, _, q1, Z', q3, .inr ⟨rfl, _, hIx _ _ _ _ _ _ hi' q5 (fun k y => by subst y; exact ⟨q4, hbl⟩), q2, q4⟩⟩
      | panic ch => exact hp.elim
      | outgrown => exact hp.elim
    | exit id => exact hp.elim
    | goto t => exact hp.elim
    | ret => exact hp.elim
    | panic ch => exact hp.elim
    | outgrown => exact hp.elim
  · rintro e W2 ⟨hv, Z', hst, (⟨hi, hr, _⟩ | ⟨pre, hp, c, hi, hr, _⟩)⟩
    · exact ⟨hv, Z', hst, .inl ⟨hi, hr⟩⟩
    · exact ⟨hv, Z', hst, .inr ⟨c, pre, hp, hi, hr⟩⟩
/-- 'for .. := range g { .. }' of a function's own -/
theorem range_out {α : Type} {n : Nat} {g : Operand} {ps : Array Tmp} {assign body : Code} {Q : Exit → Act → World → Prop} {a : Act} {w : World} {gf : FuncId} {lb : Array Value} (hg : a.eval g = .func (.func gf) #[] lb)
    (eg : ∀ args w, (callFunc gf args).run P w = .ok (.enter gf args) w) {encs : α → Array Value} {full : List α} {Rd : World → Prop} {Rb : Nat → Prop}
    (hseq : SeqZ P gf lb encs full Rd Rb) (hps : ∀ x, (encs x).size = ps.size) (I : List α → World → (Nat → Prop) → Prop) (Ix : Code → List α → World → (Nat → Prop) → Prop) (Z : Nat → Prop)
    (hZ : ∀ k, Z k → k < w.heap.size) (hRd : ∀ W, Keeps none' w W → Rd W) (hRb : ∀ k, Rb k → k < w.heap.size ∧ ¬ Z k)
    (hI : AbidesZ w.heap.size I) (hIx : ∀ c, AbidesZ w.heap.size (Ix c)) (hround : ∀ l, RoundZ P n l full encs a.tmps ps assign body w.heap.size I Ix) (h0 : I [] w Z)
    (hdone : ∀ D W Z', w.heap.size ≤ D → ¬ Z' D → Step none' Z Z' w W → I full W Z' → W.heap[D]? = some (.deferred (some [])) → Q .normal { a with defers := { target := .collected D, args := #[] } :: a.defers } W)
    (hstop : ∀ D c pre W Z', w.heap.size ≤ D → ¬ Z' D → Step none' Z Z' w W → pre <+: full → Ix c pre W Z' → W.heap[D]? = some (.deferred (some [])) → c.wpIn Fence.wide n P Q { a with defers := { target := .collected D, args := #[] } :: a.defers } W) :
    (Code.rangeFunc g ps assign body).wpIn Fence.wide n P Q a w := by
  refine wpIn_rangeFunc ?_
  intro fn _
  obtain ⟨W1, hW1⟩ : ∃ W1, (w.alloc (.deferred (some []))).alloc (.loop (lrec fn a.tmps ps assign body w.heap.size .ready none)) = W1 := ⟨_, rfl⟩
  have hL : W1.heap[w.heap.size + 1]? = some (.loop (lrec fn a.tmps ps assign body w.heap.size .ready none)) := by
    rw [← hW1]; have := World.alloc_heap_new (w.alloc (.deferred (some []))) (.loop (lrec fn a.tmps ps assign body w.heap.size .ready none)); rwa [World.size_alloc] at this
  have hD : W1.heap[w.heap.size]? = some (.deferred (some [])) := by
    rw [← hW1]; exact (Below.heap_alloc _ _ _ (by simp)).trans (World.alloc_heap_new w _)
  have hk : Keeps none' w W1 := by rw [← hW1]; exact (Keeps.alloc _ _ _).trans (Keeps.alloc _ _ _) (fun _ _ h => h)
  have hs1 : W1.heap.size = w.heap.size + 2 := by rw [← hW1]; simp
  refine ⟨w.heap.size + 1, [{ target := .collected w.heap.size, args := #[] }], W1, { target := .fn (.func gf) lb, args := #[.func (.yield (w.heap.size + 1)) #[] #[]] }, W1, gf,
    #[.func (.yield (w.heap.size + 1)) #[] #[]] ++ lb, W1, ?_, ?_, fun _ _ => trivial, ?_, (fun h => by cases h), ?_⟩
  · rw [← hW1]; exact run_enterLoop_outer _ _ _ _ _
  · simp only [resolve, hg]
    simp [go_sem]
  · simp [invoke, go_sem, eg]
  · refine callsIn_wide.2 ((core hseq hps (fun pre A ZZ => I pre A ZZ ∧ A.heap[w.heap.size]? = some (.deferred (some [])) ∧ ¬ ZZ w.heap.size) (fun c pre A ZZ => Ix c pre A ZZ ∧ A.heap[w.heap.size]? = some (.deferred (some [])) ∧ ¬ ZZ w.heap.size)
      W1 Z (w.heap.size + 1) (w.heap.size + 1) fn w.heap.size hL (Nat.le_refl _) (fun k z => by have := hZ k z; omega) (fun z => by have := hZ _ z; omega) (hRd _ hk) (fun k r => ⟨by have := (hRb k r).1; omega, (hRb k r).2, by have := (hRb k r).1; omega⟩)
      ?_ ?_ (n := n) ?_ ⟨hI _ _ _ none' _ h0 hk (fun _ h => h.elim), hD, fun z => by have := hZ _ z; omega⟩).mono ?_)
    · rintro pre A B Y ZZ ⟨hi, hr, hz⟩ hk hy
      exact ⟨hI _ _ _ Y _ hi hk (fun k y => ⟨(hy k y).1, by have := (hy k y).2; omega⟩), hk.obj hr (fun y => by have := (hy _ y).2; omega), hz⟩
    · rintro c pre A B Y ZZ ⟨hi, hr, hz⟩ hk hy
      exact ⟨hIx c _ _ _ Y _ hi hk (fun k y => ⟨(hy k y).1, by have := (hy k y).2; omega⟩), hk.obj hr (fun y => by have := (hy _ y).2; omega), hz⟩
    · rintro pre x A ZZ h1 h2 h3 ⟨hi, hr, hz⟩ h5 h6 h7
      refine wpIn_mono (hround _ pre x A ZZ h1 h2 h3 hi h5 (by omega) h7) ?_
      rintro e a1 A1 hp
      cases e with
      | normal =>
        refine ⟨hp.1, fun A2 k2 r2 i2 => wpIn_mono (hp.2 A2 k2 r2 i2.1) ?_⟩
        rintro e a3 B hq
        have hb : ∀ Z', Step none' ZZ Z' A2 B → B.heap[w.heap.size]? = some (.deferred (some [])) ∧ ¬ Z' w.heap.size := fun Z' st =>
          ⟨st.keeps.obj i2.2.1 (fun h => h.elim hz (fun h => h)), fun h => (st.new _ h).elim hz (fun h' => by have := lt_of_obj i2.2.1; omega)⟩
        cases e with
        | normal => obtain ⟨Z', st, hi'⟩ := hq; exact ⟨Z', st, hi', hb Z' st⟩
        | ret => obtain ⟨Z', st, hi'⟩ := hq; exact ⟨Z', st, hi', hb Z' st⟩
        | exit id => obtain ⟨Z', st, hi'⟩ := hq; exact ⟨Z', st, hi', hb Z' st⟩
        | goto t => obtain ⟨Z', st, hi'⟩ := hq; exact ⟨Z', st, hi', hb Z' st⟩
        | panic ch => exact hq.elim
        | outgrown => exact hq.elim
      | exit id => exact hp.elim
      | goto t => exact hp.elim
      | ret => exact hp.elim
      | panic ch => exact hp.elim
      | outgrown => exact hp.elim
    · have fin : ∀ (W2 : World) (o : Obj) (Z' : Nat → Prop), Step (fun k => k = w.heap.size + 1) Z Z' W1 W2 → Step none' Z Z' w (W2.putObj (w.heap.size + 1) o) ∧ ¬ Z' (w.heap.size + 1) := fun W2 o Z' st =>
        ⟨⟨(hk.mono (fun _ _ h => h.elim)).trans (st.keeps.trans (Keeps.putObj (Z := fun k => k = w.heap.size + 1) _ _ _ rfl) (fun _ _ h => .inr h)) (fun i hi h => h.elim .inl (fun h' => by omega)),
          fun k z => (st.new k z).elim .inl (fun h' => .inr (by omega)), fun k z => Nat.lt_of_lt_of_le (st.lt k z) (Keeps.putObj (Z := fun k => k = w.heap.size + 1) _ _ _ rfl).size⟩,
          fun h => (st.new _ h).elim (fun z => by have := hZ _ z; omega) (fun h' => by omega)⟩
      rintro e W2 ⟨⟨v, rfl⟩, Z', st, (⟨⟨hi, hr, hz⟩, hl⟩ | ⟨c, pre, hp, ⟨hi, hr, hz⟩, hl⟩)⟩
      · refine ⟨none, _, run_endLoop hl (by simp [lrec]), ?_⟩
        obtain ⟨s1, s2⟩ := fin W2 (.loop { lrec fn a.tmps ps assign body w.heap.size .ready none with state := .exhausted }) Z' st
        exact hdone _ _ Z' (Nat.le_refl _) hz s1 (hI _ _ _ (fun k => k = w.heap.size + 1) _ hi (Keeps.putObj _ _ _ rfl) (fun k y => by subst y; exact ⟨s2, by omega⟩)) ((World.putObj_heap_other (by omega)).trans hr)
      · refine ⟨some c, _, run_endLoop hl (by simp [lrec]), ?_⟩
        obtain ⟨s1, s2⟩ := fin W2 (.loop { lrec fn a.tmps ps assign body w.heap.size .done (some c) with state := .exhausted }) Z' st
        exact hstop _ c pre _ Z' (Nat.le_refl _) hz s1 hp (hIx c _ _ _ (fun k => k = w.heap.size + 1) _ hi (Keeps.putObj _ _ _ rfl) (fun k y => by subst y; exact ⟨s2, by omega⟩)) ((World.putObj_heap_other (by omega)).trans hr)
/-- the same within a round of another loop -/
theorem range_in {α : Type} {n l₀ : Nat} {r₀ : Loop} {g : Operand} {ps : Array Tmp} {assign body : Code} {Q : Exit → Act → World → Prop} {a : Act} {w : World} (hl₀ : w.heap[l₀]? = some (.loop r₀)) {gf : FuncId} {lb : Array Value} (hg : a.eval g = .func (.func gf) #[] lb)
    (eg : ∀ args w, (callFunc gf args).run P w = .ok (.enter gf args) w) {encs : α → Array Value} {full : List α} {Rd : World → Prop} {Rb : Nat → Prop}
    (hseq : SeqZ P gf lb encs full Rd Rb) (hps : ∀ x, (encs x).size = ps.size) (I : List α → World → (Nat → Prop) → Prop) (Ix : Code → List α → World → (Nat → Prop) → Prop) (Z : Nat → Prop)
    (hZ : ∀ k, Z k → k < w.heap.size) (hRd : ∀ W, Keeps none' w W → Rd W) (hRb : ∀ k, Rb k → k < w.heap.size ∧ ¬ Z k)
    (hI : AbidesZ w.heap.size I) (hIx : ∀ c, AbidesZ w.heap.size (Ix c)) (hround : ∀ l, RoundZ P n l full encs a.tmps ps assign body w.heap.size I Ix) (h0 : I [] w Z)
    (hdone : ∀ W Z', Step none' Z Z' w W → I full W Z' → Q .normal a W)
    (hstop : ∀ c pre W Z', Step none' Z Z' w W → pre <+: full → Ix c pre W Z' → c.wpIn (Fence.wide.inRound l₀) n P Q a W) :
    (Code.rangeFunc g ps assign body).wpIn (Fence.wide.inRound l₀) n P Q a w := by
  refine wpIn_rangeFunc ?_
  intro fn _
  obtain ⟨W1, hW1⟩ : ∃ W1, w.alloc (.loop (lrec fn a.tmps ps assign body r₀.defers .ready none)) = W1 := ⟨_, rfl⟩
  have hL : W1.heap[w.heap.size]? = some (.loop (lrec fn a.tmps ps assign body r₀.defers .ready none)) := by rw [← hW1]; exact World.alloc_heap_new w _
  have hk : Keeps none' w W1 := by rw [← hW1]; exact Keeps.alloc _ _ _
  have hs1 : W1.heap.size = w.heap.size + 1 := by rw [← hW1]; simp
  refine ⟨w.heap.size, [], W1, { target := .fn (.func gf) lb, args := #[.func (.yield w.heap.size) #[] #[]] }, W1, gf,
    #[.func (.yield w.heap.size) #[] #[]] ++ lb, W1, ?_, ?_, fun _ _ => trivial, ?_, (fun h => by cases h), ?_⟩
  · rw [← hW1]; exact run_enterLoop_inner hl₀ _ _ _ _ _
  · simp only [resolve, hg]
    simp [go_sem]
  · simp [invoke, go_sem, eg]
  · refine CallsIn.inRound l₀ (callsIn_wide.2 ((core hseq hps I Ix W1 Z w.heap.size w.heap.size fn r₀.defers hL (Nat.le_refl _) (fun k z => by have := hZ k z; omega) (fun z => by have := hZ _ z; omega) (hRd _ hk)
      (fun k r => ⟨by have := (hRb k r).1; omega, (hRb k r).2, by have := (hRb k r).1; omega⟩) hI hIx (hround _) (hI _ _ _ none' _ h0 hk (fun _ h => h.elim))).mono ?_))
    have fin : ∀ (W2 : World) (o : Obj) (Z' : Nat → Prop), Step (fun k => k = w.heap.size) Z Z' W1 W2 → Step none' Z Z' w (W2.putObj w.heap.size o) ∧ ¬ Z' w.heap.size := fun W2 o Z' st =>
      ⟨⟨(hk.mono (fun _ _ h => h.elim)).trans (st.keeps.trans (Keeps.putObj (Z := fun k => k = w.heap.size) _ _ _ rfl) (fun _ _ h => .inr h)) (fun i hi h => h.elim .inl (fun h' => by omega)),
        fun k z => (st.new k z).elim .inl (fun h' => .inr (by omega)), fun k z => Nat.lt_of_lt_of_le (st.lt k z) (Keeps.putObj (Z := fun k => k = w.heap.size) _ _ _ rfl).size⟩,
        fun h => (st.new _ h).elim (fun z => by have := hZ _ z; omega) (fun h' => by omega)⟩
    rintro e W2 ⟨⟨v, rfl⟩, Z', st, (⟨hi, hl⟩ | ⟨c, pre, hp, hi, hl⟩)⟩
    · refine ⟨none, _, run_endLoop hl (by simp [lrec]), ?_⟩
      obtain ⟨s1, s2⟩ := fin W2 (.loop { lrec fn a.tmps ps assign body r₀.defers .ready none with state := .exhausted }) Z' st
      exact hdone _ Z' s1 (hI _ _ _ (fun k => k = w.heap.size) _ hi (Keeps.putObj _ _ _ rfl) (fun k y => by subst y; exact ⟨s2, Nat.le_refl _⟩))
    · refine ⟨some c, _, run_endLoop hl (by simp [lrec]), ?_⟩
      obtain ⟨s1, s2⟩ := fin W2 (.loop { lrec fn a.tmps ps assign body r₀.defers .done (some c) with state := .exhausted }) Z' st
      exact hstop c pre _ Z' s1 hp (hIx c _ _ _ (fun k => k = w.heap.size) _ hi (Keeps.putObj _ _ _ rfl) (fun k y => by subst y; exact ⟨s2, Nat.le_refl _⟩))
end Go.Proofs.YtbkimhbpcmbflaaDoor.Z
set_option linter.unusedVariables false
set_option linter.unusedSimpArgs false
namespace Go.Proofs.YtbkimhbpcmbflaaDoor.C
open Go Go.RowKit Go.Shelf Go.Proofs.YtbkimhbpcmbflaaDoor.M Go.Proofs.YtbkimhbpcmbflaaDoor.Z
attribute [local go_sem] Oper.semAt_some
theorem Keeps.iterAt (W : World) (k : Nat) (s : ByteArray) (p : Nat) : Keeps (fun i => i = k) W (W.iterAt k s p) :=
  ⟨rfl, rfl, rfl, Nat.le_of_eq (Lib.iterAt_size W k s p).symm, fun i _ hn => Lib.iterAt_other W k i s p hn⟩
theorem Step.fresh {X Z Z' Y : Nat → Prop} {A B C : World} (h : Step X Z Z' A B) (k : Keeps Y B C) (hy : ∀ i, Y i → A.heap.size ≤ i) : Step X Z Z' A C :=
  ⟨h.keeps.trans k (fun i hi y => by have := hy i y; omega), h.new, fun i z => Nat.lt_of_lt_of_le (h.lt i z) k.size⟩
theorem Step.none {X Z : Nat → Prop} {W : World} (hz : ∀ k, Z k → k < W.heap.size) : Step X Z Z W W := Step.same (Keeps.refl _ _) hz
/-- what is handed of a unit: where it begins, and its number -/
def encA (s : ByteArray) (t : List UInt8) : Array Value := #[.int .i64 ((s.size - t.length : Nat) : Int), .int .i32 (dc t : Nat)]
def RdS (b : Nat) (s : ByteArray) (W : World) : Prop := W.cell? ⟨b, 0, none⟩ = some (.string s)
set_option maxRecDepth 100000 in
set_option maxHeartbeats 2000000 in
theorem all_seq (b : Nat) (s : ByteArray) (hs : s.size ≤ 140737488351232) : SeqZ Tryd.prog 91 #[.pointer (some ⟨b, 0, none⟩)] (encA s) (sfx (bl s)) (RdS b s) (fun k => k = b) := by
  intro l J Jx W Z hrd hl hrb hz hJ hJx hY h0
  refine (callsIn_wide (n := 9)).1 ?_
  refine callsIn_of_wp Tryd.func91 rfl trivial ?_
  simp only [Tryd.ntmps91, List.size_toArray, List.length_cons, List.length_nil, Nat.reduceAdd, Nat.reduceSub, Array.replicate_succ, Array.replicate_zero, List.push_toArray, List.append_toArray, List.nil_append, List.cons_append]
  have hcell : W.cell? ⟨b, 0, none⟩ = some (.string s) := hrd
  have hbl := bl_len s
  have hiW : (W.iter s 0).heap[W.heap.size]? = some (.stringIter s 0) := by simpa using World.iter_heap W s 0
  have hk0 : Keeps none' W (W.iter s 0) := Keeps.alloc _ W (.stringIter s 0)
  have hJ0 : J [] (W.iter s 0) Z := hJ _ _ _ none' _ h0 hk0 (fun _ h => h.elim)
  have hb1 := hrb b rfl
  clear hrd hrb h0
  gi_wp2
  gi_loopw [] (fun wr => ∃ (pos : Nat) (pre : List (List UInt8)) (ZZ : Nat → Prop), Hid (sfx (bl s) = pre ++ sfx ((bl s).drop pos)) ∧ pos ≤ s.size ∧ Hid (wr.heap[W.heap.size]? = some (.stringIter s pos)) ∧ ¬ ZZ W.heap.size ∧ Step (fun k => k = l) Z ZZ W wr ∧ J pre wr ZZ)
    (fun wr => s.size - wr.iterPos W.heap.size)
  case atStart =>
    exact ⟨0, [], Z, by simp [Hid], Nat.zero_le _, hiW, fun z => by have := hz _ z; omega, Step.same (hk0.mono (fun _ _ h => h.elim)) hz, hJ0⟩
  case round =>
    obtain ⟨pos, pre, ZZ, hpre, hps, hit, hzi, hst, hj⟩ := hrel
    have hzw : W.heap.size < wr.heap.size := lt_of_obj hit.out
    by_cases hp : pos < s.size
    · obtain ⟨t, ht⟩ : ∃ t, (bl s).drop pos = t := ⟨_, rfl⟩
      have hne : t ≠ [] := by rw [← ht]; exact bl_nonempty hp
      have hd : Utf8.decode s pos = (dc t, dw t) := by rw [← ht]; exact (Lib.decodeL_drop s pos).symm
      have hnx : ∀ ty, (Instr.next (.pointer (some ⟨W.heap.size, 0, none⟩)) true ty).run Tryd.prog wr = .ok (.tuple #[.bool true, .int .i64 pos, .int .i32 (dc t : Nat)]) (wr.iterAt W.heap.size s (pos + dw t)) := fun ty => by
        have := Lib.run_next_any_at (P := Tryd.prog) wr W.heap.size s pos ty hit.out hp
        rw [hd] at this
        exact this
      have hw1 := dw_pos hne
      have hw2 := dw_len hne
      have htl : t.length = s.size - pos := by rw [← ht, List.length_drop, hbl]
      have hpl : pos + dw t ≤ s.size := by omega
      have hm : s.size - (pos + dw t) < s.size - pos := by omega
      have hsx : sfx ((bl s).drop pos) = t :: sfx ((bl s).drop (pos + dw t)) := by rw [ht, sfx_cons hne, ← List.drop_drop, ht]
      have hpre2 : Hid (sfx (bl s) = (pre ++ [t]) ++ sfx ((bl s).drop (pos + dw t))) := by
        show sfx (bl s) = _
        rw [hpre.out, hsx]; simp
      have hk1 := Keeps.iterAt wr W.heap.size s (pos + dw t)
      have hit2 := Lib.iterAt_heap wr W.heap.size s pos (pos + dw t) hit.out
      have hst1 := Step.fresh hst hk1 (fun i y => by subst y; exact Nat.le_refl _)
      have hj1 := hJ _ _ _ _ _ hj hk1 (fun i y => by subst y; exact ⟨hzi, Nat.le_refl _⟩)
      obtain ⟨W1, hW1⟩ : ∃ W1, wr.iterAt W.heap.size s (pos + dw t) = W1 := ⟨_, rfl⟩
      rw [hW1] at hk1 hit2 hst1 hj1 hnx
      obtain ⟨fn, tmps, assign, body, hy, hR⟩ := hY (9 - 1) pre t W1 ZZ hj1 hst1.lt hst1.keeps.size ⟨_, hpre2.out.symm⟩
      have hpos : s.size - t.length = pos := by omega
      dsimp only [encA] at hy hR
      rw [hpos] at hy
      have Hhit := hit
      have Hit2 := Lib.hid hit2
      have Hm := Lib.hid hm
      clear hd ht hne hbl hsx hW1 hit2 hm htl hpos
      gi_wp2
      refine hR.mono ?_
      rintro e W2 ⟨Z2, hs2, (⟨rfl, hj2⟩ | ⟨rfl, hjx2⟩)⟩
      · have hit3 : W2.heap[W.heap.size]? = some (.stringIter s (pos + dw t)) := hs2.keeps.obj Hit2.out (fun h => h.elim hzi (fun h => by omega))
        have hz3 : ¬ Z2 W.heap.size := fun h => (hs2.new _ h).elim hzi (fun h' => by have := lt_of_obj Hit2.out; omega)
        have Hit3 := Lib.hid hit3
        clear hit3
        gi_wp2
        go_roundw
        case rel => exact ⟨pos + dw t, pre ++ [t], Z2, hpre2, hpl, Hit3, hz3, hst1.trans hs2, hj2⟩
        case measure =>
          simp only [World.iterPos, Hit3.out, Hhit.out]
          exact Hm.out
      · gi_wp2
        refine bodyPost_ret (results_none rfl _ _ _) rfl ?_
        exact ⟨⟨_, rfl⟩, Z2, hst1.trans hs2, .inr ⟨pre ++ [t], ⟨_, hpre2.out.symm⟩, hjx2⟩⟩
    · have hnx : ∀ ty, (Instr.next (.pointer (some ⟨W.heap.size, 0, none⟩)) true ty).run Tryd.prog wr = _ := fun ty => Lib.run_next_end_at wr W.heap.size s pos ty hit.out hp
      have hpe : sfx (bl s) = pre := by have := hpre.out; rw [List.drop_eq_nil_of_le (by omega), sfx_nil, List.append_nil] at this; exact this
      have Hpe := Lib.hid hpe
      clear hpe hbl
      gi_wp2
      go_end0
      exact ⟨⟨_, rfl⟩, ZZ, hst, .inl (by rw [Hpe.out]; exact hj)⟩
end Go.Proofs.YtbkimhbpcmbflaaDoor.C
set_option linter.unusedVariables false
set_option linter.unusedSimpArgs false
namespace Go.Proofs.YtbkimhbpcmbflaaDoor.C
open Go Go.RowKit Go.Proofs.YtbkimhbpcmbflaaDoor.M Go.Proofs.YtbkimhbpcmbflaaDoor.E
theorem below_drewN {B : Nat} {a w : World} (h : Below B a w) (q : Nat) : Below B a (w.drewN q) := below_drewNv h q
theorem byte_bt {s : ByteArray} {p : Nat} (h : p < s.size) : (s[p]'h).toNat = bt (bl s) p := by
  rw [byte_at h]; show bt ((bl s).drop p) 0 = _; rw [bt_drop, Nat.add_zero]
set_option maxHeartbeats 4000000 in
set_option maxRecDepth 1000000 in
theorem fullrune_any (s : ByteArray) (w : World) (hT : Lib.Utf8Tabs 0 1 w) (hs : s.size ≤ 140737488351232) :
    Calls Tryd.prog 85 #[.string s] w fun e w' => e = .returned (.bool (fullP (bl s))) ∧ Below w.heap.size w w' := by
  have hbl := bl_len s
  by_cases h0 : s.size = 0
  · have e : bl s = [] := List.eq_nil_of_length_eq_zero (by omega)
    have ef : fullP (bl s) = false := by rw [e]; rfl
    rw [ef]
    have h0b : ((s.size : Int) == 0) = true := by rw [beq_iff_eq]; omega
    clear e ef hbl
    go_enter Tryd.func85, Tryd.ntmps85
    go_wp2
    go_ret
    exact ⟨rfl, Below.refl _ _⟩
  · have hne : bl s ≠ [] := by intro e; rw [e] at hbl; simp at hbl; omega
    have hp0 : 0 < s.size := by omega
    have h0z : (0 : Int) < (s.size : Int) := by omega
    have h0b : ((s.size : Int) == 0) = false := beq_eq_false_iff_ne.2 (by omega)
    have hb0 := byte_bt hp0
    rw [full_N hne, hbl]
    have hX : Lib.firstT (bt (bl s) 0) < 256 := by rcases Lib.firstT_cases (bt (bl s) 0) with h | h | h | h | h | h | h | h | h <;> omega
    have hc0 := hT.1 _ (bt_lt (bl s) 0)
    rw [← hb0] at hc0 hX ⊢
    obtain ⟨x0, hx0⟩ : ∃ x0, s[0]'hp0 = x0 := ⟨_, rfl⟩
    rw [hx0] at hc0 hX ⊢
    obtain ⟨X, hXX⟩ : ∃ X, Lib.firstT x0.toNat = X := ⟨_, rfl⟩
    rw [hXX] at hc0 hX ⊢
    have h7 := and7 ⟨X, hX⟩
    simp only at h7
    have ha0 : w.cell? ⟨1, X / 16 * 2, none⟩ = some (.int .u8 (Lib.accLo (X / 16))) := by rw [Nat.mul_comm]; exact (hT.2 (X / 16) (by omega)).1
    have ha1 : w.cell? ⟨1, X / 16 * 2 + 1, none⟩ = some (.int .u8 (Lib.accHi (X / 16))) := by rw [Nat.mul_comm]; exact (hT.2 (X / 16) (by omega)).2
    unfold fullN
    obtain ⟨LO, hLO⟩ : ∃ LO, Lib.accLo (X / 16) = LO := ⟨_, rfl⟩
    obtain ⟨HI, hHI⟩ : ∃ HI, Lib.accHi (X / 16) = HI := ⟨_, rfl⟩
    rw [hLO] at ha0 ⊢
    rw [hHI] at ha1 ⊢
    have hb1 : 1 < s.size → (s.get! 1).toNat = bt (bl s) 1 := fun h => by rw [← byte_bt h, Utf8W.get!_of_lt s 1 h]
    have hb2 : 2 < s.size → (s.get! 2).toNat = bt (bl s) 2 := fun h => by rw [← byte_bt h, Utf8W.get!_of_lt s 2 h]
    have Hx0 := Lib.hid hx0
    have hx0lt : x0.toNat < 256 := x0.toNat_lt
    have hx0z : (x0.toNat : Int) < 256 := by omega
    clear hT hne hbl hLO hHI hXX hb0
    by_cases q0 : X % 8 ≤ s.size
    · have q0z : ((X : Int) % 8) ≤ (s.size : Int) := by omega
      rw [decide_eq_true q0]
      clear hb1 hb2 ha0 ha1
      go_enter Tryd.func85, Tryd.ntmps85
      go_wp2
      go_ret
      exact ⟨rfl, Below.refl _ _⟩
    · have q0z : ((s.size : Int)) < ((X : Int) % 8) := by omega
      rw [decide_eq_false q0]
      have q1z : (X / 16 : Int) < 16 := by omega
      by_cases c1 : 1 < s.size
      · have c1z : (1 : Int) < s.size := by omega
        have e1 := hb1 c1
        obtain ⟨x1, hx1⟩ : ∃ x1, s.get! 1 = x1 := ⟨_, rfl⟩
        have hs1 : s[1]'c1 = x1 := by rw [← hx1]; exact (Utf8W.get!_of_lt s 1 c1).symm
        rw [hx1] at e1
        rw [← e1]
        clear hx1 e1 hb1
        by_cases d1 : x1.toNat < LO
        · have d1z : (x1.toNat : Int) < LO := by omega
          rw [decide_eq_true c1, decide_eq_true d1]
          clear hb2
          go_enter Tryd.func85, Tryd.ntmps85
          go_wp2_with fail
          go_quiet (fail)
          go_wp2
          go_ret
          exact ⟨rfl, below_drewN ((Below.refl _ _).alloc (Nat.le_refl _) _) _⟩
        · have d1z : (LO : Int) ≤ x1.toNat := by omega
          have d1b : decide ((x1.toNat : Int) < LO) = false := by simp; omega
          rw [decide_eq_false d1]
          by_cases d2 : HI < x1.toNat
          · have d2z : (HI : Int) < x1.toNat := by omega
            rw [decide_eq_true c1, decide_eq_true d2]
            clear hb2
            go_enter Tryd.func85, Tryd.ntmps85
            go_wp2_with fail
            go_quiet (fail)
            go_wp2
            go_ret
            exact ⟨by first | rfl | simp, below_drewN ((Below.refl _ _).alloc (Nat.le_refl _) _) _⟩
          · have d2z : (x1.toNat : Int) ≤ HI := by omega
            have d2b : decide ((HI : Int) < x1.toNat) = false := by simp; omega
            rw [decide_eq_true c1, decide_eq_false d2]
            by_cases c2 : 2 < s.size
            · have c2z : (2 : Int) < s.size := by omega
              have e2 := hb2 c2
              obtain ⟨x2, hx2⟩ : ∃ x2, s.get! 2 = x2 := ⟨_, rfl⟩
              have hs2 : s[2]'c2 = x2 := by rw [← hx2]; exact (Utf8W.get!_of_lt s 2 c2).symm
              rw [hx2] at e2
              rw [← e2, decide_eq_true c2]
              clear hx2 e2 hb2
              by_cases d3 : x2.toNat < 128
              · have d3z : (x2.toNat : Int) < 128 := by omega
                rw [decide_eq_true d3]
                go_enter Tryd.func85, Tryd.ntmps85
                go_wp2_with fail
                go_quiet (fail)
                go_wp2
                go_ret
                exact ⟨by first | rfl | simp, below_drewN ((Below.refl _ _).alloc (Nat.le_refl _) _) _⟩
              · have d3z : (128 : Int) ≤ x2.toNat := by omega
                rw [decide_eq_false d3]
                by_cases d4 : 191 < x2.toNat
                · have d4z : (191 : Int) < x2.toNat := by omega
                  rw [decide_eq_true d4]
                  go_enter Tryd.func85, Tryd.ntmps85
                  go_wp2_with fail
                  go_quiet (fail)
                  go_wp2
                  go_ret
                  exact ⟨by first | rfl | simp, below_drewN ((Below.refl _ _).alloc (Nat.le_refl _) _) _⟩
                · have d4z : (x2.toNat : Int) ≤ 191 := by omega
                  rw [decide_eq_false d4]
                  go_enter Tryd.func85, Tryd.ntmps85
                  go_wp2_with fail
                  go_quiet (fail)
                  go_wp2
                  go_ret
                  exact ⟨by first | rfl | simp, below_drewN ((Below.refl _ _).alloc (Nat.le_refl _) _) _⟩
            · have c2z : (s.size : Int) ≤ 2 := by omega
              have c2b : decide ((2 : Int) < s.size) = false := by simp; omega
              rw [decide_eq_false c2]
              clear hb2
              go_enter Tryd.func85, Tryd.ntmps85
              go_wp2_with fail
              go_quiet (fail)
              go_wp2
              go_ret
              exact ⟨by first | rfl | simp, below_drewN ((Below.refl _ _).alloc (Nat.le_refl _) _) _⟩
      · have c1z : (s.size : Int) ≤ 1 := by omega
        have c1b : decide ((1 : Int) < s.size) = false := by simp; omega
        have c2b : decide ((2 : Int) < s.size) = false := by simp; omega
        have c2 : ¬ 2 < s.size := by omega
        rw [decide_eq_false c1, decide_eq_false c2]
        clear hb1 hb2
        go_enter Tryd.func85, Tryd.ntmps85
        go_wp2_with fail
        go_quiet (fail)
        go_wp2
        go_ret
        exact ⟨by first | rfl | simp, below_drewN ((Below.refl _ _).alloc (Nat.le_refl _) _) _⟩
/-- utf.Full -/
theorem full_any (s : ByteArray) (w : World) (hT : Lib.Utf8Tabs 0 1 w) (hs : s.size ≤ 140737488351232) :
    Calls Tryd.prog 34 #[.string s] w fun e w' => e = .returned (.bool (fullP (bl s))) ∧ Below w.heap.size w w' := by
  have c := fullrune_any s w hT hs
  obtain ⟨r, hr⟩ : ∃ r, fullP (bl s) = r := ⟨_, rfl⟩
  rw [hr] at c ⊢
  clear hr
  go_enter Tryd.func34, Tryd.ntmps34
  go_wp2_with fail
  refine c.mono ?_
  rintro e w1 ⟨rfl, hb⟩
  go_wp2
  go_ret
  exact ⟨rfl, hb⟩
end Go.Proofs.YtbkimhbpcmbflaaDoor.C
set_option linter.unusedVariables false
set_option linter.unusedSimpArgs false
namespace Go.Proofs.YtbkimhbpcmbflaaDoor.C
open Go Go.RowKit Go.Shelf Go.Proofs.YtbkimhbpcmbflaaDoor.M Go.Proofs.YtbkimhbpcmbflaaDoor.Z
attribute [local go_sem] Oper.semAt_some
/-- utf.All: the iterator's value -/
theorem allfn_any (s : ByteArray) (W : World) : Calls Tryd.prog 42 #[.string s] W fun e w' => e = .returned (.func (.func 91) #[] #[.pointer (some ⟨W.heap.size, 0, none⟩)]) ∧ w' = W.alloc (.cells #[.string s] 9) := by
  go_enter Tryd.func42, Tryd.ntmps42
  go_wp2
  go_ret
  exact ⟨rfl, rfl⟩
theorem badfn_any (s : ByteArray) (W : World) : Calls Tryd.prog 39 #[.string s] W fun e w' => e = .returned (.func (.func 87) #[] #[.pointer (some ⟨W.heap.size, 0, none⟩)]) ∧ w' = W.alloc (.cells #[.string s] 9) := by
  go_enter Tryd.func39, Tryd.ntmps39
  go_wp2
  go_ret
  exact ⟨rfl, rfl⟩
/-- what is handed of a piece: where it begins, and how many bytes it has -/
def encB (s : ByteArray) (x : List UInt8 × Nat) : Array Value := #[.int .i64 ((s.size - x.1.length : Nat) : Int), .int .i64 (x.2 : Nat)]
def Tabs (W : World) : Prop := Lib.Utf8Tabs 0 1 W
def tabB (k : Nat) : Prop := k = 0 ∨ k = 1
theorem Tabs.keeps {W W' : World} {Z : Nat → Prop} (h : Tabs W) (hk : Keeps Z W W') (hz : ∀ k, tabB k → ¬ Z k) : Tabs W' :=
  ⟨fun c hc => hk.cell (h.1 c hc) (hz _ (.inl rfl)), fun i hi => ⟨hk.cell (h.2 i hi).1 (hz _ (.inr rfl)), hk.cell (h.2 i hi).2 (hz _ (.inr rfl))⟩⟩
def RdB (b : Nat) (s : ByteArray) (W : World) : Prop := W.cell? ⟨b, 0, none⟩ = some (.string s) ∧ Tabs W
def RbB (b : Nat) (k : Nat) : Prop := k = b ∨ tabB k
theorem cell_new_l (W : World) (v : Value) (t : TypeId) : (W.alloc (.cells #[v] t)).cell? ⟨W.heap.size, 0, none⟩ = some v ∧ (W.alloc (.cells #[v] t)).frozen? ⟨W.heap.size, 0, none⟩ = false :=
  ⟨cell_of_row _ _ _ _ _ _ (heap_alloc_new W (.cells #[v] t)), frozen_cells (heap_alloc_new W (.cells #[v] t)) 0⟩
theorem cell_alloc_l {W : World} {a : Addr} {v : Value} (o : Obj) (h : W.cell? a = some v) : (W.alloc o).cell? a = some v := (Keeps.alloc none' W o).cell h (fun h => h)
theorem frozen_alloc_l {W : World} {a : Addr} {v : Value} (o : Obj) (h : W.cell? a = some v) (hf : W.frozen? a = false) : (W.alloc o).frozen? a = false :=
  (World.frozen?_of_block ((Keeps.alloc none' W o).block a.block (World.block_lt_of_cell? W a h) (fun h => h))).trans hf
theorem Keeps.of_below0 {W W' : World} (h : Below W.heap.size W W') : Keeps none' W W' := Keeps.of_below h (fun k h1 h2 => by omega)
/-- what the loop within Bad knows between two rounds -/
structure BadI (s : ByteArray) (b l : Nat) (W : World) (Z : Nat → Prop) (J : List (List UInt8 × Nat) → World → (Nat → Prop) → Prop) (pre : List (List UInt8)) (r : List UInt8) (e : Nat) (got : List (List UInt8 × Nat)) (Zo : Nat → Prop) (A : World) (ZZ : Nat → Prop) : Prop where
  units : sfx (bl s) = pre ++ sfx r
  at_ : At (bl s) r e got
  j : J got A Zo
  st : Step (fun k => k = l) Z Zo W A
  own : ∀ k, W.heap.size ≤ k → k < W.heap.size + 3 → ¬ Zo k
  zz : ∀ k, ZZ k ↔ (Zo k ∨ k = l ∨ k = W.heap.size + 1)
  y : A.cell? ⟨W.heap.size, 0, none⟩ = some (.func (.yield l) #[] #[])
  e : A.cell? ⟨W.heap.size + 1, 0, none⟩ = some (.int .i64 (e : Nat))
  fz : A.frozen? ⟨W.heap.size + 1, 0, none⟩ = false
  rd : RdB b s A
  big : W.heap.size + 3 ≤ A.heap.size
theorem frozen_keeps {Z : Nat → Prop} {W W' : World} (h : Keeps Z W W') {a : Addr} (hl : a.block < W.heap.size) (hn : ¬ Z a.block) : W'.frozen? a = W.frozen? a := World.frozen?_of_block (h.block a.block hl hn)
theorem BadI.keeps {s : ByteArray} {b l : Nat} {W A A' : World} {Z Zo ZZ Y : Nat → Prop} {J : List (List UInt8 × Nat) → World → (Nat → Prop) → Prop} {pre : List (List UInt8)} {r : List UInt8} {e : Nat} {got : List (List UInt8 × Nat)}
    (h : BadI s b l W Z J pre r e got Zo A ZZ) (hJ : AbidesZ W.heap.size J) (hk : Keeps Y A A') (hy : ∀ k, Y k → ¬ ZZ k ∧ W.heap.size + 3 ≤ k) (hb : b < W.heap.size) (hg : ∀ k, tabB k → k < W.heap.size) : BadI s b l W Z J pre r e got Zo A' ZZ := by
  have hle := h.st.keeps.size
  have hyw : ∀ k, k < W.heap.size + 3 → ¬ Y k := fun k hk y => by have := (hy k y).2; omega
  have l1 := World.block_lt_of_cell? A _ h.e
  exact ⟨h.units, h.at_, hJ _ _ _ Y _ h.j hk (fun k y => ⟨fun z => (hy k y).1 ((h.zz k).2 (.inl z)), by have := (hy k y).2; omega⟩), Step.fresh h.st hk (fun k y => by have := (hy k y).2; omega), h.own, h.zz,
    hk.cell h.y (hyw _ (by show W.heap.size < _; omega)), hk.cell h.e (hyw _ (by show W.heap.size + 1 < _; omega)), (frozen_keeps hk l1 (hyw _ (by show W.heap.size + 1 < _; omega))).trans h.fz,
    ⟨hk.cell h.rd.1 (hyw _ (by show b < _; omega)), h.rd.2.keeps hk (fun k t => hyw k (by have := hg k t; omega))⟩, Nat.le_trans h.big hk.size⟩
theorem units_next {l r : List UInt8} {pre : List (List UInt8)} {x : List UInt8} (h : sfx l = pre ++ sfx r) (hp : (pre ++ [x]) <+: sfx l) : r ≠ [] ∧ x = r ∧ sfx l = (pre ++ [x]) ++ sfx (r.drop (dw r)) := by
  obtain ⟨t, ht⟩ := hp
  rw [h, List.append_assoc] at ht
  have ht2 := List.append_cancel_left ht
  by_cases hr : r = []
  · subst hr; rw [sfx_nil] at ht2; simp at ht2
  · rw [sfx_cons hr] at ht2
    injection ht2 with e1 e2
    subst e1
    exact ⟨hr, rfl, by rw [h, sfx_cons hr]; simp⟩
/-- a piece is found: its end is stored, yield is called -/
structure Found (s : ByteArray) (b l : Nat) (W : World) (Z : Nat → Prop) (J Jx : List (List UInt8 × Nat) → World → (Nat → Prop) → Prop) (pre : List (List UInt8)) (x : List UInt8) (A2 : World) (ZZ : Nat → Prop) (got' : List (List UInt8 × Nat)) (Zo : Nat → Prop) (W5 : World) : Prop where
  y : W5.cell? ⟨W.heap.size, 0, none⟩ = some (.func (.yield l) #[] #[])
  size : W.heap.size ≤ W5.heap.size
  lt : ∀ k, Zo k → k < W5.heap.size
  on : ∀ W6 Z2, Step (fun k => k = l) Zo Z2 W5 W6 → J got' W6 Z2 → ∃ Z', Step none' ZZ Z' A2 W6 ∧ ∃ r e got Zo, BadI s b l W Z J (pre ++ [x]) r e got Zo W6 Z'
  off : ∀ W6 Z2, Step (fun k => k = l) Zo Z2 W5 W6 → Jx got' W6 Z2 → ∃ Z', Step none' ZZ Z' A2 W6 ∧ (Code.ret = Code.ret ∧ ∃ got Zo, got <+: pieces (bl s) ∧ Jx got W6 Zo ∧ Step (fun k => k = l) Z Zo W W6 ∧ ∀ k, Zo k → Z' k)
theorem BadI.found {s : ByteArray} {b l : Nat} {W A2 wr : World} {Z Zo ZZ : Nat → Prop} {J Jx : List (List UInt8 × Nat) → World → (Nat → Prop) → Prop} {pre : List (List UInt8)} {x : List UInt8} {e p q : Nat} {got : List (List UInt8 × Nat)}
    (h : BadI s b l W Z J pre x e got Zo wr ZZ) (hJ : AbidesZ W.heap.size J) (hst : Step none' ZZ ZZ A2 wr) (hl : l < W.heap.size) (hb : b < W.heap.size) (hbz : ¬ Z b) (hbl : b ≠ l) (hg : ∀ k, tabB k → k < W.heap.size) (hgz : ∀ k, tabB k → ¬ Z k ∧ k ≠ l)
    (hne : x ≠ []) (hi : ill x = true) (hpe : (bl s).length - x.length = p) (hep : e ≤ p) (hq : pl x = q) (hun : sfx (bl s) = (pre ++ [x]) ++ sfx (x.drop (dw x))) :
    J got (wr.setCell ⟨W.heap.size + 1, 0, none⟩ (.int .i64 ((p : Int) + q))) Zo ∧ (got ++ [(x, q)]) <+: pieces (bl s) ∧ Found s b l W Z J Jx pre x A2 ZZ (got ++ [(x, q)]) Zo (wr.setCell ⟨W.heap.size + 1, 0, none⟩ (.int .i64 ((p : Int) + q))) := by
  have hpc := h.at_.piece hne (by rw [hpe]; exact hep) hi
  rw [hpe, hq] at hpc
  have hle := h.st.keeps.size
  have hk5 : Keeps (fun k => k = W.heap.size + 1) wr (wr.setCell ⟨W.heap.size + 1, 0, none⟩ (.int .i64 ((p : Int) + q))) := Keeps.setCell _ _ _ rfl
  have e5 : (wr.setCell ⟨W.heap.size + 1, 0, none⟩ (.int .i64 ((p : Int) + q))).cell? ⟨W.heap.size + 1, 0, none⟩ = some (.int .i64 ((p + q : Nat) : Int)) := by
    rw [World.cell?_setCell_same' _ _ _ (by rw [h.e]; rfl)]; simp
  have f5 : (wr.setCell ⟨W.heap.size + 1, 0, none⟩ (.int .i64 ((p : Int) + q))).frozen? ⟨W.heap.size + 1, 0, none⟩ = false := by rw [World.frozen?_setCell]; exact h.fz
  have hsz := hk5.size
  generalize wr.setCell ⟨W.heap.size + 1, 0, none⟩ (.int .i64 ((p : Int) + q)) = W5 at *
  have hz1 : ¬ Zo (W.heap.size + 1) := h.own _ (by omega) (by omega)
  have hz0 : ¬ Zo W.heap.size := h.own _ (by omega) (by omega)
  have hzlt : ∀ k, Zo k → k < W5.heap.size := fun k z => Nat.lt_of_lt_of_le (h.st.lt k z) hsz
  have hnew : ∀ k, Zo k → Z k ∨ W.heap.size ≤ k := h.st.new
  have hst5 : Step (fun k => k = l) Z Zo W W5 := Step.fresh h.st hk5 (fun k y => by omega)
  have y5 := hk5.cell h.y (show ¬ W.heap.size = W.heap.size + 1 by omega)
  have s5 := hk5.cell h.rd.1 (show ¬ b = W.heap.size + 1 by omega)
  have t5 := h.rd.2.keeps hk5 (fun k t => by have := hg k t; omega)
  have hA5 : Step none' ZZ ZZ A2 W5 := hst.trans (Step.same (hk5.mono (fun k _ y => .inl ((h.zz k).2 (.inr (.inr y))))) hst.lt)
  have l1 := World.block_lt_of_cell? W5 _ e5
  have key : ∀ W6 Z2, Step (fun k => k = l) Zo Z2 W5 W6 → Step none' ZZ (fun k => Z2 k ∨ k = l ∨ k = W.heap.size + 1) A2 W6 := fun W6 Z2 h6 => by
    refine ⟨hA5.keeps.trans (h6.keeps.mono (Z' := fun k => ZZ k ∨ none' k) (fun k _ z => .inl ((h.zz k).2 (z.elim .inl (fun z => .inr (.inl z)))))) (fun _ _ z => z), fun k z => ?_, fun k z => ?_⟩
    · rcases z with z | z | z
      · rcases h6.new k z with z | z
        · exact .inl ((h.zz k).2 (.inl z))
        · exact .inr (Nat.le_trans hA5.keeps.size z)
      · exact .inl ((h.zz k).2 (.inr (.inl z)))
      · exact .inl ((h.zz k).2 (.inr (.inr z)))
    · have := h6.keeps.size
      rcases z with z | z | z
      · exact h6.lt k z
      · omega
      · have : W.heap.size + 1 < W5.heap.size := l1
        omega
  refine ⟨hJ _ _ _ _ _ h.j hk5 (fun k y => by subst y; exact ⟨hz1, by omega⟩), hpc.2, ⟨y5, by omega, hzlt, fun W6 Z2 h6 hj => ?_, fun W6 Z2 h6 hj => ?_⟩⟩
  · have hn : ∀ k, k < W.heap.size + 3 → ¬ Zo k → k ≠ l → ¬ (Zo k ∨ k = l) := fun k _ h1 h2 h3 => h3.elim h1 h2
    have h1l : W.heap.size + 1 ≠ l := by omega
    refine ⟨_, key W6 Z2 h6, _, p + q, _, Z2, ⟨hun, hpc.1, hj, hst5.trans h6, fun k k1 k2 z => ?_, fun k => Iff.rfl, h6.keeps.cell y5 (hn _ (by show W.heap.size < _; omega) hz0 (by show W.heap.size ≠ l; omega)), h6.keeps.cell e5 (hn _ (by show W.heap.size + 1 < _; omega) hz1 h1l),
      (frozen_keeps h6.keeps l1 (hn _ (by show W.heap.size + 1 < _; omega) hz1 h1l)).trans f5, ⟨h6.keeps.cell s5 (fun z => z.elim (fun z => (hnew b z).elim hbz (fun h' => by omega)) hbl), t5.keeps h6.keeps (fun k t z => z.elim (fun z => (hnew k z).elim (hgz k t).1 (fun h' => by have := hg k t; omega)) (hgz k t).2)⟩, Nat.le_trans h.big (Nat.le_trans hsz h6.keeps.size)⟩⟩
    rcases h6.new k z with z | z
    · exact h.own k k1 k2 z
    · have := h.big
      omega
  · exact ⟨_, key W6 Z2 h6, rfl, _, Z2, hpc.2, hj, hst5.trans h6, fun k z => .inl z⟩
set_option maxRecDepth 100000 in
set_option maxHeartbeats 2000000 in
theorem bad_seq (b : Nat) (s : ByteArray) (hs : s.size ≤ 140737488351232) : SeqZ Tryd.prog 87 #[.pointer (some ⟨b, 0, none⟩)] (encB s) (pieces (bl s)) (RdB b s) (RbB b) := by
  intro l J Jx W Z hrd hl hrb hz hJ hJx hY h0
  refine (callsIn_wide (n := 9)).1 ?_
  refine callsIn_of_wp_marks Tryd.func87 rfl trivial ?_
  simp only [Tryd.ntmps87, List.size_toArray, List.length_cons, List.length_nil, Nat.reduceAdd, Nat.reduceSub, Array.replicate_succ, Array.replicate_zero, List.push_toArray, List.append_toArray, List.nil_append, List.cons_append]
  obtain ⟨hcell, htab⟩ := hrd
  have hbl := bl_len s
  have cA := fun W => callsIn_wide (n := 8).2 (allfn_any s W)
  obtain ⟨hbs, hbz, hbl2⟩ := hrb b (.inl rfl)
  have hgs : ∀ k, tabB k → k < W.heap.size := fun k t => (hrb k (.inr t)).1
  have hgz : ∀ k, tabB k → ¬ Z k ∧ k ≠ l := fun k t => (hrb k (.inr t)).2
  have Hgs := Lib.hid hgs
  have Hgz := Lib.hid hgz
  have Hbl := Lib.hid hbl
  have Htab := Lib.hid htab
  clear hrb hgs hgz hbl htab
  gi_wp2_with fail
  refine ⟨trivial, (cA _).mono ?_⟩
  rintro e w' ⟨rfl, rfl⟩
  clear cA
  gi_wp2_with fail
  have b0 := cell_new_l W (.func (.yield l) #[] #[]) 87
  have b1 := cell_new_l (W.alloc (.cells #[.func (.yield l) #[] #[]] 87)) (.int .i64 0) 3
  have b2 := cell_new_l ((W.alloc (.cells #[.func (.yield l) #[] #[]] 87)).alloc (.cells #[.int .i64 0] 3)) (.string s) 9
  simp only [World.size_alloc] at b1 b2
  have hk3 : Keeps none' W (((W.alloc (.cells #[.func (.yield l) #[] #[]] 87)).alloc (.cells #[.int .i64 0] 3)).alloc (.cells #[.string s] 9)) :=
    ((Keeps.alloc none' W _).trans (Keeps.alloc none' _ _) (fun _ _ h => h)).trans (Keeps.alloc none' _ _) (fun _ _ h => h)
  have hs3 : (((W.alloc (.cells #[.func (.yield l) #[] #[]] 87)).alloc (.cells #[.int .i64 0] 3)).alloc (.cells #[.string s] 9)).heap.size = W.heap.size + 3 := by simp
  have y3 := cell_alloc_l (.cells #[.string s] 9) (cell_alloc_l (.cells #[.int .i64 0] 3) b0.1)
  have e3 := cell_alloc_l (.cells #[.string s] 9) b1.1
  have z3 := frozen_alloc_l (.cells #[.string s] 9) b1.1 b1.2
  have s3 := b2.1
  obtain ⟨W3, hW3⟩ : ∃ W3, (((W.alloc (.cells #[.func (.yield l) #[] #[]] 87)).alloc (.cells #[.int .i64 0] 3)).alloc (.cells #[.string s] 9)) = W3 := ⟨_, rfl⟩
  rw [hW3] at hk3 hs3 y3 e3 z3 s3 ⊢
  clear b0 b1 b2 hW3
  have hI0 : BadI s b l W Z J [] (bl s) 0 [] Z W3 (fun k => Z k ∨ k = l ∨ k = W.heap.size + 1) :=
    ⟨rfl, At.start _, hJ _ _ _ none' _ h0 hk3 (fun _ h => h.elim), Step.same (hk3.mono (fun _ _ h => h.elim)) hz, fun k h1 h2 z => by have := hz k z; omega, fun k => Iff.rfl, y3, e3, z3,
      ⟨hk3.cell hcell (fun h => h), Htab.out.keeps hk3 (fun _ _ h => h)⟩, by omega⟩
  refine range_out (gf := 91) (lb := #[.pointer (some ⟨W.heap.size + 1 + 1, 0, none⟩)]) rfl (enters_of Tryd.func91 (by kernel_rfl) rfl) (all_seq (W.heap.size + 2) s hs) (fun _ => rfl)
    (fun pre A ZZ => ∃ r e got Zo, BadI s b l W Z J pre r e got Zo A ZZ)
    (fun c pre A ZZ => c = .ret ∧ ∃ got Zo, got <+: pieces (bl s) ∧ Jx got A Zo ∧ Step (fun k => k = l) Z Zo W A ∧ ∀ k, Zo k → ZZ k)
    (fun k => Z k ∨ k = l ∨ k = W.heap.size + 1) ?hZ ?hRd ?hRb ?hI ?hIx ?hround ⟨_, _, _, _, hI0⟩ ?hdone ?hstop
  case hZ => rintro k (h | h | h) <;> first | (have := hz k h; omega) | omega
  case hRd => exact fun W' hk => hk.cell s3 (fun h => h)
  case hRb => rintro k rfl; exact ⟨by omega, fun h => h.elim (fun h => by have := hz _ h; omega) (fun h => by omega)⟩
  case hI =>
    rintro pre A B Y ZZ ⟨r, e, got, Zo, h⟩ hk hy
    exact ⟨r, e, got, Zo, h.keeps hJ hk (fun k y => ⟨(hy k y).1, by have := (hy k y).2; omega⟩) hbs Hgs.out⟩
  case hIx =>
    rintro c pre A B Y ZZ ⟨hc, got, Zo, hp, hj, hst, hzz⟩ hk hy
    exact ⟨hc, got, Zo, hp, hJx _ _ _ Y _ hj hk (fun k y => ⟨fun z => (hy k y).1 (hzz k z), by have := (hy k y).2; omega⟩), Step.fresh hst hk (fun k y => by have := (hy k y).2; omega), hzz⟩
  case hround =>
    rintro l2 pre x A ZZ hl2 hzl hrec ⟨r, e, got, Zo, h⟩ hzz hB hpre
    obtain ⟨hne, rfl, hun⟩ := units_next h.units hpre
    obtain ⟨hxl, hxd⟩ := units_drop (l := bl s) (r := x) h.units hne
    obtain ⟨p, hp⟩ : ∃ p, p = s.size - x.length := ⟨_, rfl⟩
    have hx1 : 1 ≤ x.length := List.length_pos_iff.2 hne
    rw [Hbl.out] at hxl hxd
    have hpl : p + x.length = s.size := by omega
    rw [← hp] at hxd
    simp only [encA]
    rw [← hp]
    have Hp := Lib.hid hp
    have Hxd := Lib.hid hxd
    have Hun := Lib.hid hun
    clear hp hxd hun
    gi_wp2
    refine ⟨Keeps.refl _ _, fun A2 hk2 hr2 _ => ?_⟩
    have hxd := Hxd.out
    have hun := Hun.out
    have hw3 : W3.heap.size ≤ A2.heap.size := Nat.le_trans (by omega) hk2.size
    have h := h.keeps hJ hk2 (fun k y => by subst y; exact ⟨hzl, by omega⟩) hbs Hgs.out
    have hzz2 : ∀ k, ZZ k → k < A2.heap.size := fun k z => Nat.lt_of_lt_of_le (hzz k z) hk2.size
    have hl22 : l2 < A2.heap.size := by obtain ⟨r, hr⟩ := hr2; exact lt_of_obj hr
    clear hrec hl2 hzz
    have hdU : decU (bl s) (p : Int) = (((dc x : Nat) : Int), ((dw x : Nat) : Int)) := by
      unfold decU
      rw [if_neg (by rw [Hbl.out]; omega), Int.toNat_natCast, ← hxd]
    have cD : Calls Tryd.prog 71 #[.string s, .int .i64 p] A2 fun e w' => e = .returned (.tuple #[.int .i32 (dc x : Nat), .int .i64 (dw x : Nat)]) ∧ Below A2.heap.size A2 w' :=
      (decode_any s p A2 h.rd.2 hs).mono fun e w' ⟨h1, h2⟩ => ⟨by rw [h1, hdU], h2⟩
    have hsc := h.rd.1
    obtain ⟨d, hd⟩ : ∃ d, dw x = d := ⟨_, rfl⟩
    rw [hd] at cD hun
    have hpI : (p : Int) < s.size := by omega
    have hps : p < s.size := by omega
    have hbyte : (s[p]'hps).toNat = bt x 0 := by rw [byte_bt hps, hxd, bt_drop, Nat.add_zero]
    have hw1 := dw_pos hne
    rw [hd] at hw1
    gi_wp2_with fail
    refine ⟨trivial, (CallsIn.inRound l2 (callsIn_wide (n := 8).2 cD)).mono ?_⟩
    rintro e1 A3 ⟨rfl, hb3⟩
    have hk3' := Keeps.of_below0 hb3
    have h3 := h.keeps hJ hk3' (fun k y => y.elim) hbs Hgs.out
    have hsc3 := h3.rd.1
    have hec3 := h3.e
    have hyc3 := h3.y
    have hat := h3.at_
    have hzz3 : ∀ k, ZZ k → k < A3.heap.size := fun k z => Nat.lt_of_lt_of_le (hzz2 k z) hk3'.size
    have hst3 : Step none' ZZ ZZ A2 A3 := Step.same (hk3'.mono (fun _ _ h => h.elim)) hzz2
    have hpe : (bl s).length - x.length = p := by rw [Hbl.out]; omega
    clear cD hsc hk2 Hun
    -- within a piece
    by_cases hin : p < e
    · have hinI : (p : Int) < (e : Int) := by omega
      have hn := hat.skip hne (by rw [hpe]; exact hin)
      rw [hd] at hn
      have hfin : ∃ Z', Step none' ZZ Z' A2 A3 ∧ ∃ r e got Zo, BadI s b l W Z J (pre ++ [x]) r e got Zo A3 Z' :=
        ⟨ZZ, hst3, _, _, _, _, { h3 with units := hun, at_ := hn }⟩
      have Hf := Lib.hid hfin
      clear hfin hat hn h h3 hY hdU hbyte hpe hun hxd
      gi_wp2
      exact Hf.out
    · have hinI : (e : Int) ≤ (p : Int) := by omega
      have hinB : decide ((p : Int) < (e : Int)) = false := by simp; omega
      cases hi : ill x with
      | false =>
        have hn := hat.char hne (by rw [hpe]; omega) hi
        rw [hd] at hn
        have hfin : ∃ Z', Step none' ZZ Z' A2 A3 ∧ ∃ r e got Zo, BadI s b l W Z J (pre ++ [x]) r e got Zo A3 Z' :=
          ⟨ZZ, hst3, _, _, _, _, { h3 with units := hun, at_ := hn }⟩
        have Hf := Lib.hid hfin
        have ht := ill_test hne
        rw [hi, hd] at ht
        by_cases hw : 1 < d
        · have hwI : (1 : Int) < (d : Int) := by omega
          clear hfin hat hn h h3 hY hdU hbyte hpe hun hxd ht hi hd
          gi_wp2
          exact Hf.out
        · have hwI : (d : Int) ≤ 1 := by omega
          have hwB : decide ((1 : Int) < (d : Int)) = false := by simp; omega
          have hb128 : bt x 0 < 128 := by
            rw [decide_eq_true (show d ≤ 1 by omega), Bool.true_and] at ht
            have := of_decide_eq_false ht.symm
            omega
          rw [← hbyte] at hb128
          have hbI : ((s[p]'hps).toNat : Int) < 128 := by omega
          clear hfin hat hn h h3 hY hdU hbyte hpe hun hxd ht hi hd
          gi_wp2
          exact Hf.out
      | true =>
        have hd1 : d = 1 := by
          rcases ill_or hne with ⟨_, _, _, hh⟩ | ⟨hh, _⟩
          · omega
          · rw [hi] at hh; cases hh
        have hb128 : 128 ≤ bt x 0 := by have := (ill_b0 hne hi).1; exact this
        rw [← hbyte] at hb128
        have hwI : (d : Int) ≤ 1 := by omega
        have hwB : decide ((1 : Int) < (d : Int)) = false := by simp; omega
        have hbI : (128 : Int) ≤ ((s[p]'hps).toNat : Int) := by omega
        have hbB : decide (((s[p]'hps).toNat : Int) < 128) = false := by simp; omega
        obtain ⟨q, hq⟩ : ∃ q, pl x = q := ⟨_, rfl⟩
        have hq3 : q ≤ 3 := by rw [← hq]; exact pl_three hne hi
        have hqx : q ≤ x.length := by rw [← hq]; exact pl_len hne
        have hqb : q = max 1 (bg x) := by rw [← hq]; rfl
        have cF : ∀ k, 1 ≤ k → k ≤ x.length → ∀ wr, Below A3.heap.size A3 wr → Calls Tryd.prog 34 #[.string (s.extract p (p + k))] wr fun e w' => e = .returned (.bool (decide (bg x < k))) ∧ Below wr.heap.size wr w' := fun k k1 k2 wr hb => by
          have hx : bl (s.extract p (p + k)) = x.take k := by
            have : bl (s.extract p (p + k)) = ((bl s).drop p).take (p + k - p) := by simp [bl, ByteArray.data_extract, Array.toList_extract, List.extract]
            rw [this, ← hxd]
            congr 1; omega
          have := full_any (s.extract p (p + k)) wr (h3.rd.2.keeps (Keeps.of_below0 hb) (fun _ _ h => h)) (by simp; omega)
          rw [hx, full_cut hne hi k1 k2] at this
          exact this
        obtain ⟨g, hg⟩ : ∃ g, bg x = g := ⟨_, rfl⟩
        rw [hg] at cF hqb
        have Hl := Lib.hid hqb
        have hq1 : 1 ≤ q := by omega
        have hgq : g ≤ q := by omega
        have hqg : q ≤ 1 ∨ q ≤ g := by omega
        clear hqb hg
        have hb5 : 0 ≤ ((s[p]'hps).toNat : Int) := by omega
        clear hb5
        have Hq := Lib.hid hq
        have Hd := Lib.hid hd
        have Hi := Lib.hid hi
        have Hpe := Lib.hid hpe
        have Hby := Lib.hid hbyte
        have HdU := Lib.hid hdU
        have Hx := Lib.hid hxd
        have Hu := Lib.hid hun
        subst hd1
        clear hq hd hi hpe hbyte hdU hxd hun
        gi_wp2
        gi_loopw [7, 8] (fun nv kv wr => ∃ n k : Nat, nv = .int .i64 n ∧ kv = .int .i64 k ∧ k ≤ n + 1 ∧ n + 1 ≤ k ∧ 1 ≤ n ∧ n ≤ q ∧ Below A3.heap.size A3 wr) (fun _ kv _ => 5 - (intOf kv).toNat)
        case atStart => exact ⟨1, 2, rfl, rfl, by omega, by omega, by omega, hq1, Below.refl _ _⟩
        case round =>
          obtain ⟨n, k, rfl, rfl, hk1, hk2, hn1, hnq, hbr⟩ := hrel
          have hk4' := Keeps.of_below0 hbr
          have h4 := h3.keeps hJ hk4' (fun k y => y.elim) hbs Hgs.out
          have hst4 : Step none' ZZ ZZ A2 wr := hst3.trans (Step.same (hk4'.mono (fun _ _ h => h.elim)) hzz3)
          have hsc4 := h4.rd.1
          have hxs : x.length ≤ s.size := by omega
          by_cases hc : k ≤ g
          · have hk4 : (k : Int) < 4 := by omega
            have hpk : (p : Int) + (k : Int) ≤ (s.size : Int) := by omega
            have cK := cF k (by omega) (by omega) wr hbr
            rw [decide_eq_false (show ¬ g < k by omega)] at cK
            clear cF hat h h3 h4 hY
            gi_wp2_with fail
            refine ⟨trivial, (CallsIn.inRound l2 (callsIn_wide (n := 8).2 cK)).mono ?_⟩
            rintro e5 W5 ⟨rfl, hb5⟩
            gi_wp2
            go_roundw
            case rel => exact ⟨k, k + 1, rfl, by go_num, by omega, by omega, by omega, by omega, hbr.trans (hb5.mono hbr.size)⟩
            case measure => simp [intOf]; omega
          · obtain rfl : n = q := by omega
            have hkI : (k : Int) ≤ n + 1 := by omega
            by_cases c4 : k < 4
            · have c4I : (k : Int) < 4 := by omega
              by_cases cs : p + k ≤ s.size
              · have csI : (p : Int) + (k : Int) ≤ (s.size : Int) := by omega
                have cK := cF k (by omega) (by omega) wr hbr
                rw [decide_eq_true (show g < k by omega)] at cK
                clear cF
                gi_wp2_with fail
                refine ⟨trivial, (CallsIn.inRound l2 (callsIn_wide (n := 8).2 cK)).mono ?_⟩
                rintro e5 wq ⟨rfl, hbq⟩
                have h4 := h4.keeps hJ (Keeps.of_below0 hbq) (fun k y => y.elim) hbs Hgs.out
                have hst4 : Step none' ZZ ZZ A2 wq := hst4.trans (Step.same ((Keeps.of_below0 hbq).mono (fun _ _ h => h.elim)) hst4.lt)
                clear hbq hbr cK hk4'
                obtain ⟨j5, p5, F⟩ := h4.found (Jx := Jx) hJ hst4 hl hbs hbz hbl2 Hgs.out Hgz.out hne Hi.out Hpe.out (by omega) Hq.out (by rw [Hd.out]; exact Hu.out)
                obtain ⟨fn, tmps, assign, body, hy, hR⟩ := hY (9 - 1) got (x, n) _ Zo j5 F.lt F.size p5
                dsimp only [encB] at hy hR
                rw [← Hp.out] at hy
                have y5 := F.y
                obtain ⟨W5, hW5⟩ : ∃ W5, wq.setCell ⟨W.heap.size + 1, 0, none⟩ (.int .i64 ((p : Int) + n)) = W5 := ⟨_, rfl⟩
                have e4 := h4.e
                have z4 := h4.fz
                rw [hW5] at hy hR y5 F
                clear hat h h3 h4 hY j5 p5 Hl
                gi_wp2
                refine hR.mono ?_
                rintro e6 W6 ⟨Z2, h6, (⟨rfl, hj6⟩ | ⟨rfl, hj6⟩)⟩
                · have Hf := Lib.hid (F.on W6 Z2 h6 hj6)
                  clear F
                  gi_wp2
                  exact Hf.out
                · have Hf := Lib.hid (F.off W6 Z2 h6 hj6)
                  clear F
                  gi_wp2
                  obtain ⟨Z', ha, _, hb⟩ := Hf.out
                  exact ⟨Z', ha, rfl, hb⟩
              · have csI : (s.size : Int) < (p : Int) + (k : Int) := by omega
                have csB : decide ((p : Int) + (k : Int) ≤ (s.size : Int)) = false := by simp; omega
                clear cF
                obtain ⟨j5, p5, F⟩ := h4.found (Jx := Jx) hJ hst4 hl hbs hbz hbl2 Hgs.out Hgz.out hne Hi.out Hpe.out (by omega) Hq.out (by rw [Hd.out]; exact Hu.out)
                obtain ⟨fn, tmps, assign, body, hy, hR⟩ := hY (9 - 1) got (x, n) _ Zo j5 F.lt F.size p5
                dsimp only [encB] at hy hR
                rw [← Hp.out] at hy
                have y5 := F.y
                obtain ⟨W5, hW5⟩ : ∃ W5, wr.setCell ⟨W.heap.size + 1, 0, none⟩ (.int .i64 ((p : Int) + n)) = W5 := ⟨_, rfl⟩
                have e4 := h4.e
                have z4 := h4.fz
                rw [hW5] at hy hR y5 F
                clear hat h h3 h4 hY j5 p5 Hl
                gi_wp2
                refine ⟨trivial, ?_⟩
                gi_wp2
                refine hR.mono ?_
                rintro e6 W6 ⟨Z2, h6, (⟨rfl, hj6⟩ | ⟨rfl, hj6⟩)⟩
                · have Hf := Lib.hid (F.on W6 Z2 h6 hj6)
                  clear F
                  gi_wp2
                  exact Hf.out
                · have Hf := Lib.hid (F.off W6 Z2 h6 hj6)
                  clear F
                  gi_wp2
                  obtain ⟨Z', ha, _, hb⟩ := Hf.out
                  exact ⟨Z', ha, rfl, hb⟩
            · have c4I : (4 : Int) ≤ k := by omega
              have c4B : decide ((k : Int) < 4) = false := by simp; omega
              clear cF
              obtain ⟨j5, p5, F⟩ := h4.found (Jx := Jx) hJ hst4 hl hbs hbz hbl2 Hgs.out Hgz.out hne Hi.out Hpe.out (by omega) Hq.out (by rw [Hd.out]; exact Hu.out)
              obtain ⟨fn, tmps, assign, body, hy, hR⟩ := hY (9 - 1) got (x, n) _ Zo j5 F.lt F.size p5
              dsimp only [encB] at hy hR
              rw [← Hp.out] at hy
              have y5 := F.y
              obtain ⟨W5, hW5⟩ : ∃ W5, wr.setCell ⟨W.heap.size + 1, 0, none⟩ (.int .i64 ((p : Int) + n)) = W5 := ⟨_, rfl⟩
              have e4 := h4.e
              have z4 := h4.fz
              rw [hW5] at hy hR y5 F
              clear hat h h3 h4 hY j5 p5 Hl
              gi_wp2
              refine ⟨trivial, ?_⟩
              gi_wp2
              refine hR.mono ?_
              rintro e6 W6 ⟨Z2, h6, (⟨rfl, hj6⟩ | ⟨rfl, hj6⟩)⟩
              · have Hf := Lib.hid (F.on W6 Z2 h6 hj6)
                clear F
                gi_wp2
                exact Hf.out
              · have Hf := Lib.hid (F.off W6 Z2 h6 hj6)
                clear F
                gi_wp2
                obtain ⟨Z', ha, _, hb⟩ := Hf.out
                exact ⟨Z', ha, rfl, hb⟩
  case hdone =>
    rintro D W' Z' hD hzD hst ⟨r, e, got, Zo, h⟩ hd
    have hgot : sfx r = [] := by
      have := congrArg List.length h.units
      rw [List.length_append] at this
      exact List.eq_nil_of_length_eq_zero (by omega)
    have hr : r = [] := by
      by_cases hr : r = []
      · exact hr
      · rw [sfx_cons hr] at hgot; cases hgot
    subst hr
    have hg := h.at_.fin
    subst hg
    have hzo : ∀ k, k = D → ¬ Zo k ∧ W.heap.size ≤ k := fun k e => by subst e; exact ⟨fun z => hzD ((h.zz _).2 (.inl z)), by omega⟩
    gi_wp2
    refine ⟨by simp, .inl ⟨_, _, rfl, run_takeDeferred hd, ?_⟩⟩
    have hkD : Keeps (fun k => k = D) W' (W'.putObj D (.deferred none)) := Keeps.putObj _ _ _ rfl
    exact ⟨_, results_none rfl _ _ _, ⟨_, rfl⟩, Zo, Step.fresh h.st hkD (fun k e => (hzo k e).2), .inl (hJ _ _ _ _ _ h.j hkD hzo)⟩
  case hstop =>
    rintro D c pre W' Z' hD hzD hst hpre ⟨rfl, got, Zo, hp, hj, hst2, hzz⟩ hd
    have hzo : ∀ k, k = D → ¬ Zo k ∧ W.heap.size ≤ k := fun k e => by subst e; exact ⟨fun z => hzD (hzz _ z), by omega⟩
    gi_wp2
    refine ⟨by simp, .inl ⟨_, _, rfl, run_takeDeferred hd, ?_⟩⟩
    have hkD : Keeps (fun k => k = D) W' (W'.putObj D (.deferred none)) := Keeps.putObj _ _ _ rfl
    exact ⟨_, results_none rfl _ _ _, ⟨_, rfl⟩, Zo, Step.fresh hst2 hkD (fun k e => (hzo k e).2), .inr ⟨got, hp, hJx _ _ _ _ _ hj hkD hzo⟩⟩
end Go.Proofs.YtbkimhbpcmbflaaDoor.C
set_option linter.unusedVariables false
set_option linter.unusedSimpArgs false
namespace Go.Proofs.YtbkimhbpcmbflaaDoor.C
open Go Go.RowKit Go.Shelf Go.Proofs.YtbkimhbpcmbflaaDoor.M Go.Proofs.YtbkimhbpcmbflaaDoor.Z
section
variable {P : Program} (w : World)
theorem run_append_str_lies (base : Nat) (t u ty e : TypeId) (i : TypeInfo) (ht : P.underlying t = some (.slice e)) (hu : P.underlying u = some .string) (hi : P.info? e = some i) (hz : i.zero = some (.int .u8 0))
    (hsize : i.size = 1) (hby : i.bytes = 1) (v : Value) (n : Nat) (xs : List Value) (hown : w.ownsRow base e 1 v n xs) (s : ByteArray)
    (h63 : n + s.size ≤ maxLen) (hbytes : n + s.size ≤ 140737488355328) (hbase : base ≤ w.heap.size) :
    ∃ v' w', (Builtin.append_ #[t, u] ty #[v, .string s]).run P w = .ok v' w' ∧ w'.ownsRow base e 1 v' (n + s.size) (xs ++ Lib.strCells s) ∧ w.grownBy w' v.ownBlock ∧
      (∀ g, v'.ownBlock = some g → v.ownBlock = some g ∨ g = w.heap.size) := by
  obtain ⟨v', w', hr, h2, h3, h4⟩ := Lib.run_append_own_string (P := P) w base t u ty e i ht hu hi hz hsize hby v n xs hown s h63 hbytes hbase
  refine ⟨v', w', hr, h2, h3, fun g hg => ?_⟩
  have hsmall : n + s.size ≤ 9223372036854775807 := by simp only [maxLen] at h63; omega
  have hxl : xs.length = n := by simpa using hown.1
  rcases hown.2 with ⟨rfl, rfl⟩ | ⟨b, cp, cur, rfl, hbg, hgg, hnc, hcm, hcs, htake⟩
  · by_cases hm : s.size = 0
    · rw [h4.2 ⟨rfl, hm⟩] at hg
      simp [Value.ownBlock] at hg
    · have hr' := run_append_nil_string (P := P) w t u ty e i (.int .u8 0) ht hu hi hz s (by omega) (by omega) (by rw [hby]; omega)
      rw [hr'] at hr
      injection hr with hv _
      subst hv
      right
      simpa [Value.ownBlock] using hg.symm
  · by_cases hroom : n + s.size ≤ cp
    · have hcs' : cur.size = cp := by simpa using hcs
      have hr' := Lib.run_append_room_string (P := P) w t u ty e i ht hu hi hsize b n cp cur hgg s hroom (by omega)
      rw [hr'] at hr
      injection hr with hv _
      subst hv
      left
      simpa [Value.ownBlock] using hg
    · have holds : ∀ j u, xs[j]? = some u → w.cell? ((⟨b, 0, none⟩ : Addr).add j) = some u := hown.cells (g := b) rfl
      have hr' := Lib.run_append_grow_string (P := P) w t u ty e i (.int .u8 0) ht hu hi hz ⟨b, 0, none⟩ n cp xs (by rw [hsize]; simpa using hxl) holds s (by omega) (by omega) (by rw [hby]; exact growslice_fits (by omega) (by omega))
      rw [hr'] at hr
      injection hr with hv _
      subst hv
      right
      simpa [Value.ownBlock] using hg.symm
theorem wpList_append_str_lies {ops : Array Oper} {rest : List Oper} {o : Oper} {a : Act} {Q : Exit → Act → World → Prop} (hgd : o.guard = none) (sl x : Operand) (t u : TypeId)
    (ho : o.op = .call { callee := .builtin .append, args := #[sl, x], argTypes := #[t, u] })
    (base : Nat) (e : TypeId) (i : TypeInfo) (ht : P.underlying t = some (.slice e)) (hu : P.underlying u = some .string) (hi : P.info? e = some i) (hz : i.zero = some (.int .u8 0))
    (hsize : i.size = 1) (hby : i.bytes = 1) (v : Value) (n : Nat) (xs : List Value) (hs : a.eval sl = v) (hown : w.ownsRow base e 1 v n xs) (s : ByteArray) (hx : a.eval x = .string s)
    (h63 : n + s.size ≤ maxLen) (hbytes : n + s.size ≤ 140737488355328) (hbase : base ≤ w.heap.size)
    (h : ∀ v' w', w'.ownsRow base e 1 v' (n + s.size) (xs ++ Lib.strCells s) → w.grownBy w' v.ownBlock → (∀ g, v'.ownBlock = some g → v.ownBlock = some g ∨ g = w.heap.size) → wpList P ops Q rest (a.put o.dst v') w') : wpList P ops Q (o :: rest) a w := by
  refine wpList_plain hgd fun K hK => ?_
  obtain ⟨v', w', hr, h2, h3, h4⟩ := run_append_str_lies (P := P) w base t u o.type e i ht hu hi hz hsize hby v n xs hown s h63 hbytes hbase
  unfold Oper.wp execOp
  simp only [ho, resolve, invoke, builtin, Sem.run_bind, Sem.run_pure, Result.andThen_ok, List.map_toArray, List.map_cons, List.map_nil, hs, hx, hr]
  exact hK _ _ (h v' w' h2 h3 h4)
end
/-- a strings.Builder of the call's own, and its buffer -/
structure Bd (w : World) (B b : Nat) (p v : Value) (bs : List UInt8) : Prop where
  le : B ≤ b
  blk : w.heap[b]? = some (.cells #[p, v] 90 (0, 0))
  p : p = .pointer none ∨ p = .pointer (some ⟨b, 0, none⟩)
  row : w.ownsRow B 5 1 v bs.length (bcells bs)
  ne : v.ownBlock ≠ some b
theorem owns_obj {w w' : World} {B n size : Nat} {e : TypeId} {v : Value} {xs : List Value} {Y : Nat → Prop} (h : w.ownsRow B e size v n xs) (hk : Keeps Y w w') (hv : ∀ g, v.ownBlock = some g → ¬ Y g) : w'.ownsRow B e size v n xs := by
  refine ⟨h.1, ?_⟩
  rcases h.2 with h | ⟨g, cap, cur, rfl, hb, hg, r⟩
  · exact .inl h
  · exact .inr ⟨g, cap, cur, rfl, hb, hk.obj hg (hv g (by simp [Value.ownBlock])), r⟩
theorem Bd.keeps {w w' : World} {B b : Nat} {p v : Value} {bs : List UInt8} {Y : Nat → Prop} (h : Bd w B b p v bs) (hk : Keeps Y w w') (hb : ¬ Y b) (hv : ∀ g, v.ownBlock = some g → ¬ Y g) : Bd w' B b p v bs :=
  ⟨h.le, hk.obj h.blk hb, h.p, owns_obj h.row hk hv, h.ne⟩
set_option maxHeartbeats 1000000 in
theorem copycheck_any {w : World} {B b : Nat} {p v : Value} {bs : List UInt8} (h : Bd w B b p v bs) :
    Calls Tryd.prog 117 #[.pointer (some ⟨b, 0, none⟩)] w fun e w' => e = .returned (.tuple #[]) ∧ Bd w' B b (.pointer (some ⟨b, 0, none⟩)) v bs ∧ Keeps (fun k => k = b) w w' := by
  rcases h.p with rfl | rfl
  · have := Any.Builder_copyCheck_fresh (P := Tryd.prog) (ρ := Tryd.lays105_ren) { Tryd.lays105 with } Tryd.Builder_Extra_105.toX72 b w (cell_of_row _ _ _ _ _ _ h.blk) (by simp [World.shape?, h.blk]; rfl) (frozen_cells h.blk 0)
    refine Calls.mono this ?_
    rintro e w' ⟨rfl, rfl⟩
    have hk : Keeps (fun k => k = b) w (w.setCell ⟨b, 0, none⟩ (.pointer (some ⟨b, 0, none⟩))) := Keeps.setCell _ _ _ rfl
    exact ⟨rfl, ⟨h.le, cell_modify h.blk 0 _, .inr rfl, owns_obj h.row hk (fun g hg e => h.ne (by rw [hg, e])), h.ne⟩, hk⟩
  · have := Any.Builder_copyCheck_used (P := Tryd.prog) (ρ := Tryd.lays105_ren) { Tryd.lays105 with } Tryd.Builder_Extra_105.toX72 b w (cell_of_row _ _ _ _ _ _ h.blk)
    refine Calls.mono this ?_
    rintro e w' ⟨rfl, rfl⟩
    exact ⟨rfl, h, Keeps.refl _ _⟩
set_option maxHeartbeats 1000000 in
set_option maxRecDepth 100000 in
theorem writestr_any {w : World} {B b : Nat} {p v : Value} {bs : List UInt8} (h : Bd w B b p v bs) (s : ByteArray) (hlen : bs.length + s.size ≤ 140737488355328) (hB : B ≤ w.heap.size) :
    Calls Tryd.prog 88 #[.pointer (some ⟨b, 0, none⟩), .string s] w fun e w' => e = .returned (.tuple #[.int .i64 s.size, .nilIface]) ∧
      ∃ v', Bd w' B b (.pointer (some ⟨b, 0, none⟩)) v' (bs ++ bl s) ∧ Keeps (fun k => k = b ∨ v.ownBlock = some k) w w' ∧ ∀ g, v'.ownBlock = some g → v.ownBlock = some g ∨ w.heap.size ≤ g := by
  obtain ⟨i0, hi, hz0, hz1, hz2⟩ := info_parts Tryd.infoByte
  have cC := copycheck_any h
  go_enter Tryd.func88, Tryd.ntmps88
  go_wp2_with fail
  refine cC.mono ?_
  rintro e w1 ⟨rfl, h1, hk1⟩
  have c1 : w1.cell? ⟨b, 1, none⟩ = some v := cell_of_row _ _ _ _ _ _ h1.blk
  have hs1 := hk1.size
  go_wp2_with (at_builtin; refine wpList_append_str_lies _ rfl _ _ 72 9 rfl B 5 i0 Tryd.underlying72 Tryd.underlying9 hi hz0 hz1 hz2 v bs.length (bcells bs) rfl h1.row s rfl (by unfold maxLen; omega) hlen (by omega) ?_)
  intro v' w2 hown' hgrow hlies
  have hb1 : b < w1.heap.size := lt_of_obj h1.blk
  have hb2 : w2.heap[b]? = some (.cells #[.pointer (some ⟨b, 0, none⟩), v] 90 (0, 0)) := (hgrow.block b hb1 (fun e => h1.ne e.symm)).trans h1.blk
  have d1 : w2.cell? ⟨b, 1, none⟩ = some v := cell_of_row _ _ _ _ _ _ hb2
  have f1 : w2.frozen? ⟨b, 1, none⟩ = false := frozen_cells hb2 1
  have hne' : v'.ownBlock ≠ some b := fun e => (hlies b e).elim (fun e => h1.ne e) (fun e => by omega)
  have hown2 : w2.ownsRow B 5 1 v' (bs ++ bl s).length (bcells (bs ++ bl s)) := by
    rw [List.length_append, bl_len, bcells_append]; exact hown'
  have hsz2 := hgrow.size
  have hres : ∀ ao n' cap, v' = .slice ao n' cap → Bd (w2.setCell ⟨b, 1, none⟩ v') B b (.pointer (some ⟨b, 0, none⟩)) v' (bs ++ bl s) ∧ Keeps (fun k => k = b ∨ v.ownBlock = some k) w (w2.setCell ⟨b, 1, none⟩ v') ∧ ∀ g, v'.ownBlock = some g → v.ownBlock = some g ∨ w.heap.size ≤ g := fun ao n' cap _ => by
    have hk3 : Keeps (fun k => k = b) w2 (w2.setCell ⟨b, 1, none⟩ v') := Keeps.setCell _ _ _ rfl
    refine ⟨⟨h.le, cell_modify hb2 1 _, .inr rfl, owns_obj hown2 hk3 (fun g hg e => hne' (by rw [hg, e])), hne'⟩, ?_, fun g hg => (hlies g hg).imp id (fun e => by omega)⟩
    refine ((hk1.mono (fun _ _ e => .inl e)).trans (Keeps.of_grownBy (Z := fun k => v.ownBlock = some k) hgrow (fun r e => e)) (fun _ _ e => .inr e)).trans hk3 (fun _ _ e => .inl e)
  obtain ⟨ao, n', cap, rfl⟩ : ∃ ao n' cap, v' = .slice ao n' cap := by
    rcases hown'.2 with ⟨hv, _⟩ | ⟨g, cap, cur, hv, _⟩
    · exact ⟨_, _, _, hv⟩
    · exact ⟨_, _, _, hv⟩
  have Hr := Lib.hid (hres ao n' cap rfl)
  clear hres hown' hown2 hlies hne' hgrow h1 hk1 cC
  go_wp2
  go_ret2
  exact ⟨rfl, _, Hr.out⟩
end Go.Proofs.YtbkimhbpcmbflaaDoor.C
set_option linter.unusedVariables false
set_option linter.unusedSimpArgs false
namespace Go.Proofs.YtbkimhbpcmbflaaDoor.C
open Go Go.RowKit Go.Shelf Go.Proofs.YtbkimhbpcmbflaaDoor.M Go.Proofs.YtbkimhbpcmbflaaDoor.Z
attribute [local go_sem] Oper.semAt_some
/-- what Mend's own blocks hold: the text, by, whole, the builder, how far the text is done -/
structure MI (w : World) (s t : ByteArray) (whole : Bool) (bs : List UInt8) (a : Nat) (v p : Value) (A : World) (ZZ : Nat → Prop) : Prop where
  bd : Bd A w.heap.size (w.heap.size + 3) p v bs
  at_ : A.cell? ⟨w.heap.size + 4, 0, none⟩ = some (.int .i64 (a : Nat))
  fz : A.frozen? ⟨w.heap.size + 4, 0, none⟩ = false
  s : A.cell? ⟨w.heap.size, 0, none⟩ = some (.string s)
  t : A.cell? ⟨w.heap.size + 1, 0, none⟩ = some (.string t)
  wh : A.cell? ⟨w.heap.size + 2, 0, none⟩ = some (.bool whole)
  zz : ∀ k, ZZ k ↔ (k = w.heap.size + 3 ∨ k = w.heap.size + 4 ∨ v.ownBlock = some k)
  st : Keeps none' w A
  big : w.heap.size + 5 ≤ A.heap.size
  own : ∀ g, v.ownBlock = some g → w.heap.size + 5 ≤ g
theorem MI.keeps {w A A' : World} {s t : ByteArray} {whole : Bool} {bs : List UInt8} {a : Nat} {v p : Value} {ZZ Y : Nat → Prop} (h : MI w s t whole bs a v p A ZZ) (hk : Keeps Y A A') (hy : ∀ k, Y k → ¬ ZZ k ∧ w.heap.size + 5 ≤ k) : MI w s t whole bs a v p A' ZZ := by
  have hn : ∀ k, k < w.heap.size + 5 → ¬ Y k := fun k hk' y => by have := (hy k y).2; omega
  have l1 := World.block_lt_of_cell? A _ h.at_
  exact ⟨h.bd.keeps hk (hn _ (by omega)) (fun g hg y => (hy g y).1 ((h.zz g).2 (.inr (.inr hg)))), hk.cell h.at_ (hn _ (by show w.heap.size + 4 < _; omega)), (frozen_keeps hk l1 (hn _ (by show w.heap.size + 4 < _; omega))).trans h.fz,
    hk.cell h.s (hn _ (by show w.heap.size < _; omega)), hk.cell h.t (hn _ (by show w.heap.size + 1 < _; omega)), hk.cell h.wh (hn _ (by show w.heap.size + 2 < _; omega)), h.zz,
    h.st.trans hk (fun i hi y => hn i (by omega) y), Nat.le_trans h.big hk.size, h.own⟩
theorem MI.lt {w A : World} {s t : ByteArray} {whole : Bool} {bs : List UInt8} {a : Nat} {v p : Value} {ZZ : Nat → Prop} (h : MI w s t whole bs a v p A ZZ) : ∀ k, ZZ k → k < A.heap.size := by
  have hb := h.big
  intro k z
  rcases (h.zz k).1 z with rfl | rfl | z
  · omega
  · omega
  · exact (h.bd.row.lt k z).2
theorem MI.write {w A : World} {s t : ByteArray} {whole : Bool} {bs : List UInt8} {a : Nat} {v p : Value} {ZZ : Nat → Prop} (h : MI w s t whole bs a v p A ZZ) (x : ByteArray) (hlen : bs.length + x.size ≤ 140737488355328) :
    Calls Tryd.prog 88 #[.pointer (some ⟨w.heap.size + 3, 0, none⟩), .string x] A fun e A' => e = .returned (.tuple #[.int .i64 x.size, .nilIface]) ∧
      ∃ v' p' ZZ', MI w s t whole (bs ++ bl x) a v' p' A' ZZ' ∧ Step none' ZZ ZZ' A A' := by
  have hb := h.big
  refine (writestr_any h.bd x hlen (by omega)).mono ?_
  rintro e A' ⟨he, v', hbd, hk, hl⟩
  have hn : ∀ k, k < w.heap.size + 5 → k ≠ w.heap.size + 3 → ¬ (k = w.heap.size + 3 ∨ v.ownBlock = some k) := fun k hk' h3 y => y.elim h3 (fun y => by have := h.own k y; omega)
  have l1 := World.block_lt_of_cell? A _ h.at_
  refine ⟨he, v', _, fun k => k = w.heap.size + 3 ∨ k = w.heap.size + 4 ∨ v'.ownBlock = some k, ⟨hbd, hk.cell h.at_ (hn _ (by show w.heap.size + 4 < _; omega) (by show w.heap.size + 4 ≠ _; omega)), (frozen_keeps hk l1 (hn _ (by show w.heap.size + 4 < _; omega) (by show w.heap.size + 4 ≠ _; omega))).trans h.fz,
    hk.cell h.s (hn _ (by show w.heap.size < _; omega) (by show w.heap.size ≠ _; omega)), hk.cell h.t (hn _ (by show w.heap.size + 1 < _; omega) (by show w.heap.size + 1 ≠ _; omega)), hk.cell h.wh (hn _ (by show w.heap.size + 2 < _; omega) (by show w.heap.size + 2 ≠ _; omega)), fun k => Iff.rfl,
    h.st.trans hk (fun i hi y => hn i (by omega) (by omega) y), Nat.le_trans h.big hk.size, fun g hg => (hl g hg).elim (h.own g) (fun h' => by omega)⟩, ⟨hk.mono (fun k _ y => .inl ((h.zz k).2 (y.elim .inl (fun y => .inr (.inr y))))), fun k z => ?_, fun k z => ?_⟩⟩
  · rcases z with z | z | z
    · exact .inl ((h.zz k).2 (.inl z))
    · exact .inl ((h.zz k).2 (.inr (.inl z)))
    · exact (hl k z).imp (fun z => (h.zz k).2 (.inr (.inr z))) id
  · have := hk.size
    rcases z with z | z | z
    · omega
    · omega
    · exact (hbd.row.lt k z).2
theorem MI.store {w A : World} {s t : ByteArray} {whole : Bool} {bs : List UInt8} {a : Nat} {v p : Value} {ZZ : Nat → Prop} (h : MI w s t whole bs a v p A ZZ) (a' : Nat) (z : Value) (hz : z = .int .i64 (a' : Nat)) :
    MI w s t whole bs a' v p (A.setCell ⟨w.heap.size + 4, 0, none⟩ z) ZZ ∧ Step none' ZZ ZZ A (A.setCell ⟨w.heap.size + 4, 0, none⟩ z) := by
  subst hz
  have hb := h.big
  have hk : Keeps (fun k => k = w.heap.size + 4) A (A.setCell ⟨w.heap.size + 4, 0, none⟩ (.int .i64 (a' : Nat))) := Keeps.setCell _ _ _ rfl
  have l1 := World.block_lt_of_cell? A _ h.at_
  refine ⟨⟨h.bd.keeps hk (by omega) (fun g hg e => ?_), World.cell?_setCell_same' _ _ _ (by rw [h.at_]; rfl), by rw [World.frozen?_setCell]; exact h.fz, hk.cell h.s (by show ¬ w.heap.size = _; omega), hk.cell h.t (by show ¬ w.heap.size + 1 = _; omega), hk.cell h.wh (by show ¬ w.heap.size + 2 = _; omega), h.zz,
    h.st.trans hk (fun i hi y => by omega), Nat.le_trans h.big hk.size, h.own⟩, Step.same (hk.mono (fun k _ y => .inl ((h.zz k).2 (.inr (.inl y))))) h.lt⟩
  have := h.own g hg
  omega
theorem bl_cut {s : ByteArray} {i j : Nat} (hj : j ≤ s.size) : bl (s.extract i j) = ((bl s).take j).drop i := by
  have : bl (s.extract i j) = ((bl s).drop i).take (j - i) := by simp [bl, ByteArray.data_extract, Array.toList_extract, List.extract]
  rw [this, List.drop_take]
/-- what is put in a piece's place -/
def repB (t : ByteArray) (whole : Bool) (n : Nat) : List UInt8 := if whole then bl t else Lib.repeatL (bl t) n
theorem repeatL_len (l : List UInt8) (n : Nat) : (Lib.repeatL l n).length = n * l.length := by
  induction n with
  | zero => simp [Lib.repeatL]
  | succ n ih => simp [Lib.repeatL, ih, Nat.add_mul]; omega
theorem repB_len (t : ByteArray) (whole : Bool) : ∀ n, n ≤ 3 → (repB t whole n).length ≤ 3 * t.size := by
  intro n hn
  unfold repB
  split
  · rw [bl_len]; omega
  · rw [repeatL_len, bl_len]; exact Nat.mul_le_mul_right _ hn
set_option maxRecDepth 100000 in
set_option maxHeartbeats 2000000 in
theorem mend_any (s t : ByteArray) (whole : Bool) (w : World) (hT : Tabs w) (hs : s.size ≤ 140737488351232) (hlen : s.size + s.size * (3 * t.size) ≤ 140737488355328) (ht : t.size * 3 ≤ 140737488355328) :
    Calls Tryd.prog 40 #[.string s, .string t, .bool whole] w fun e w' => e = .returned (.string ⟨(mend (bl s) (repB t whole)).toArray⟩) ∧ Below w.heap.size w w' := by
  obtain ⟨ANS, hANS⟩ : ∃ ANS, mend (bl s) (repB t whole) = ANS := ⟨_, rfl⟩
  rw [hANS]
  have Hans := Lib.hid hANS
  clear hANS
  refine (callsIn_wide (n := 9)).1 ?_
  refine callsIn_of_wp_marks Tryd.func40 rfl trivial ?_
  simp only [Tryd.ntmps40, List.size_toArray, List.length_cons, List.length_nil, Nat.reduceAdd, Nat.reduceSub, Array.replicate_succ, Array.replicate_zero, List.push_toArray, List.append_toArray, List.nil_append, List.cons_append]
  have hbl := bl_len s
  have htl := bl_len t
  have cB := fun W => callsIn_wide (n := 8).2 (badfn_any s W)
  have Htab := Lib.hid hT
  have Hbl := Lib.hid hbl
  have Htl := Lib.hid htl
  have hTlt : ∀ k, tabB k → k < w.heap.size := fun k tk => by
    rcases tk with rfl | rfl
    · exact cell_blk (hT.1 0 (by decide))
    · exact cell_blk (hT.2 0 (by decide)).1
  have HTlt := Lib.hid hTlt
  clear hT hbl htl hTlt
  gi_wp2_with fail
  refine ⟨trivial, (cB _).mono ?_⟩
  rintro e w' ⟨rfl, rfl⟩
  clear cB
  gi_wp2_with fail
  obtain ⟨W1, hW1⟩ : ∃ W1, w.alloc (.cells #[.string s] 9) = W1 := ⟨_, rfl⟩
  have q0 := cell_new_l w (.string s) 9
  have z1 : W1.heap.size = w.heap.size + 1 := by rw [← hW1]; simp
  have k1 : Keeps none' w W1 := by rw [← hW1]; exact Keeps.alloc _ _ _
  rw [hW1] at q0 ⊢
  obtain ⟨W2, hW2⟩ : ∃ W2, W1.alloc (.cells #[.string t] 9) = W2 := ⟨_, rfl⟩
  have q1 := cell_new_l W1 (.string t) 9
  have z2 : W2.heap.size = w.heap.size + 2 := by rw [← hW2]; simp; omega
  have k2 : Keeps none' W1 W2 := by rw [← hW2]; exact Keeps.alloc _ _ _
  rw [hW2, z1] at q1
  rw [hW2]
  obtain ⟨W3, hW3⟩ : ∃ W3, W2.alloc (.cells #[.bool whole] 4) = W3 := ⟨_, rfl⟩
  have q2 := cell_new_l W2 (.bool whole) 4
  have z3 : W3.heap.size = w.heap.size + 3 := by rw [← hW3]; simp; omega
  have k3 : Keeps none' W2 W3 := by rw [← hW3]; exact Keeps.alloc _ _ _
  rw [hW3, z2] at q2
  rw [hW3]
  obtain ⟨W4, hW4⟩ : ∃ W4, W3.alloc (.cells #[.pointer none, .slice none 0 0] 90) = W4 := ⟨_, rfl⟩
  have q3 := heap_alloc_new W3 (.cells #[.pointer none, .slice none 0 0] 90)
  have z4 : W4.heap.size = w.heap.size + 4 := by rw [← hW4]; simp; omega
  have k4 : Keeps none' W3 W4 := by rw [← hW4]; exact Keeps.alloc _ _ _
  rw [hW4, z3] at q3
  rw [hW4]
  obtain ⟨W5, hW5⟩ : ∃ W5, W4.alloc (.cells #[.int .i64 0] 3) = W5 := ⟨_, rfl⟩
  have q4 := cell_new_l W4 (.int .i64 0) 3
  have z5 : W5.heap.size = w.heap.size + 5 := by rw [← hW5]; simp; omega
  have k5 : Keeps none' W4 W5 := by rw [← hW5]; exact Keeps.alloc _ _ _
  rw [hW5, z4] at q4
  rw [hW5]
  obtain ⟨W6, hW6⟩ : ∃ W6, W5.alloc (.cells #[.string s] 9) = W6 := ⟨_, rfl⟩
  have q5 := cell_new_l W5 (.string s) 9
  have z6 : W6.heap.size = w.heap.size + 6 := by rw [← hW6]; simp; omega
  have k6 : Keeps none' W5 W6 := by rw [← hW6]; exact Keeps.alloc _ _ _
  rw [hW6, z5] at q5
  rw [hW6]
  have nn : ∀ {A B C : World}, Keeps none' A B → Keeps none' B C → Keeps none' A C := fun h k => h.trans k (fun _ _ h => h)
  have k56 := k6
  have k46 := nn k5 k56
  have k36 := nn k4 k46
  have k26 := nn k3 k36
  have k16 := nn k2 k26
  have k06 := nn k1 k16
  have f4 : W6.frozen? ⟨w.heap.size + 4, 0, none⟩ = false := (frozen_keeps k56 (World.block_lt_of_cell? W5 _ q4.1) (fun h => h)).trans q4.2
  have hI0 : MI w s t whole [] 0 (.slice none 0 0) (.pointer none) W6 (fun k => k = w.heap.size + 3 ∨ k = w.heap.size + 4 ∨ (Value.slice none 0 0).ownBlock = some k) :=
    ⟨⟨by omega, k46.obj q3 (fun h => h), .inl rfl, World.ownsRow_nil _ _ _ _, by simp [Value.ownBlock]⟩, k56.cell q4.1 (fun h => h), f4, k16.cell q0.1 (fun h => h), k26.cell q1.1 (fun h => h), k36.cell q2.1 (fun h => h), fun k => Iff.rfl, k06, by omega, fun g hg => by simp [Value.ownBlock] at hg⟩
  have hs5 := q5.1
  have hml : ∀ pre, pre <+: pieces (bl s) → (mfold (bl s) (repB t whole) pre).1.length + (s.size - (mfold (bl s) (repB t whole) pre).2) + (s.size - pre.length) * (3 * t.size) ≤ 140737488355328 ∧ MAt (bl s) (repB t whole) pre := fun pre hp => by
    obtain ⟨h1, h2⟩ := mfold_len (repB_len t whole) pre hp
    refine ⟨?_, h2⟩
    have h3 := h2.le
    rw [Hbl.out] at h3
    have h4 : pre.length ≤ s.size := by have := pieces_count (bl s); rw [Hbl.out] at this; exact Nat.le_trans hp.length_le this
    have h5 : pre.length * (3 * t.size) + (s.size - pre.length) * (3 * t.size) = s.size * (3 * t.size) := by rw [← Nat.add_mul]; congr 1; omega
    omega
  have Hml := Lib.hid hml
  clear hml
  clear q0 q1 q2 q3 q4 q5 k1 k2 k3 k4 k5 k6 k56 k46 k36 k26 k16 hW1 hW2 hW3 hW4 hW5 hW6 z1 z2 z3 z4 z5 f4 nn
  refine range_out (gf := 87) (lb := #[.pointer (some ⟨w.heap.size + 1 + 1 + 1 + 1 + 1, 0, none⟩)]) rfl (enters_of Tryd.func87 (by kernel_rfl) rfl) (bad_seq (w.heap.size + 5) s hs) (fun _ => rfl)
    (fun pre A ZZ => pre <+: pieces (bl s) ∧ ∃ v p, MI w s t whole (mfold (bl s) (repB t whole) pre).1 (mfold (bl s) (repB t whole) pre).2 v p A ZZ)
    (fun _ _ _ _ => False)
    (fun k => k = w.heap.size + 3 ∨ k = w.heap.size + 4 ∨ (Value.slice none 0 0).ownBlock = some k) ?hZ ?hRd ?hRb ?hI ?hIx ?hround ⟨⟨_, rfl⟩, _, _, hI0⟩ ?hdone ?hstop
  case hZ => exact hI0.lt
  case hRd => exact fun W' hk => ⟨hk.cell hs5 (fun h => h), (Htab.out.keeps k06 (fun _ _ h => h)).keeps hk (fun _ _ h => h)⟩
  case hRb =>
    rintro k (rfl | tk)
    · refine ⟨by omega, fun z => ?_⟩
      rcases z with z | z | z
      · omega
      · omega
      · simp [Value.ownBlock] at z
    · have := HTlt.out k tk
      refine ⟨by omega, fun z => ?_⟩
      rcases z with z | z | z
      · omega
      · omega
      · simp [Value.ownBlock] at z
  case hI =>
    rintro pre A B Y ZZ ⟨hp, v, p, h⟩ hk hy
    exact ⟨hp, v, p, h.keeps hk (fun k y => ⟨(hy k y).1, by have := (hy k y).2; omega⟩)⟩
  case hIx => exact fun c pre A B Y ZZ h _ _ => h.elim
  case hround =>
    rintro l2 pre x A ZZ hl2 hzl hrec ⟨hp, v, p, h⟩ hzz hB hpre
    obtain ⟨l1, lm⟩ := Hml.out _ hp
    obtain ⟨_, n2, n3, n4, n5, n6, _⟩ := lm.next hpre
    have hx3 : x.2 ≤ 3 := by rw [n6]; exact pieces_three _ x (hpre.subset (by simp))
    have hpc : pre.length + 1 ≤ s.size := by
      have h1 := hpre.length_le
      have h2 := pieces_count (bl s)
      rw [Hbl.out] at h2
      simp at h1
      omega
    obtain ⟨d, hdd⟩ : ∃ d, s.size - pre.length = d + 1 := ⟨s.size - pre.length - 1, by omega⟩
    rw [hdd, Nat.add_mul, Nat.one_mul] at l1
    obtain ⟨o, ho⟩ : ∃ o, (mfold (bl s) (repB t whole) pre).1 = o := ⟨_, rfl⟩
    obtain ⟨a, ha⟩ : ∃ a, (mfold (bl s) (repB t whole) pre).2 = a := ⟨_, rfl⟩
    rw [ho, ha] at h l1
    rw [ha] at n2
    rw [Hbl.out] at n2 n3
    obtain ⟨f, hf⟩ : ∃ f, s.size - x.1.length = f := ⟨_, rfl⟩
    obtain ⟨n, hn⟩ : ∃ n, x.2 = n := ⟨_, rfl⟩
    rw [hf] at n2
    have hfs : f + x.1.length = s.size := by omega
    rw [hn] at n4 hx3
    have hl3 := repB_len t whole n hx3
    simp only [encB]
    rw [hf, hn]
    have Hf := Lib.hid hf
    have Hn := Lib.hid hn
    have Ho := Lib.hid ho
    have Ha := Lib.hid ha
    have hfs2 : f + n ≤ s.size := by omega
    have hafI : (a : Int) ≤ (f : Int) := by omega
    have hfI : (f : Int) ≤ s.size := by omega
    have hx1 : bl (s.extract a f) = ((bl s).take f).drop a := bl_cut (by omega)
    have hxs : (s.extract a f).size = f - a := by simp; omega
    clear hf hn ho ha n6 hdd hpc lm hfs n5 n4
    gi_wp2
    refine ⟨Keeps.refl _ _, ?_⟩
    intro A2 hk2
    intros
    have hm2 := h.keeps hk2 (fun k y => by subst y; exact ⟨hzl, by omega⟩)
    have c1 := hm2.write (s.extract a f) (by rw [hxs]; omega)
    rw [hx1] at c1
    have e1 := hm2.s
    have e2 := hm2.at_
    clear hrec h hl2 hx1
    gi_wp2_with fail
    refine ⟨trivial, (CallsIn.inRound l2 (callsIn_wide (n := 8).2 c1)).mono ?_⟩
    rintro e A3 ⟨rfl, v3, p3, Z3, m3, st3⟩
    have e3 := m3.t
    have e3w := m3.wh
    have hol : (o ++ ((bl s).take f).drop a).length = o.length + (f - a) := by rw [List.length_append, List.length_drop, List.length_take, Hbl.out]; omega
    clear c1 e1 e2 hm2
    cases whole with
    | true =>
      have c2 := m3.write t (by rw [hol]; have : (repB t true n).length = t.size := by show (bl t).length = _; exact Htl.out
                                omega)
      gi_wp2_with fail
      refine ⟨trivial, (CallsIn.inRound l2 (callsIn_wide (n := 8).2 c2)).mono ?_⟩
      rintro e A4 ⟨rfl, v4, p4, Z4, m4, st4⟩
      clear c2 m3
      obtain ⟨m5, st5⟩ := m4.store (f + n) (.int .i64 ((f : Int) + n)) (by rw [Int.natCast_add])
      have e4 := m4.at_
      have z4 := m4.fz
      have hfin : ∃ Z', Step none' ZZ Z' A2 (A4.setCell ⟨w.heap.size + 4, 0, none⟩ (.int .i64 ((f : Int) + n))) ∧ ((pre ++ [x]) <+: pieces (bl s) ∧ ∃ v p, MI w s t true (mfold (bl s) (repB t true) (pre ++ [x])).1 (mfold (bl s) (repB t true) (pre ++ [x])).2 v p (A4.setCell ⟨w.heap.size + 4, 0, none⟩ (.int .i64 ((f : Int) + n))) Z') := by
        refine ⟨_, (st3.trans st4).trans st5, hpre, v4, p4, ?_⟩
        rw [mfold_snoc]
        simp only [mstep, Ho.out, Ha.out, Hn.out]
        rw [Hbl.out, Hf.out, ← List.append_assoc]
        exact m5
      have Hfin := Lib.hid hfin
      clear hfin m5 st5 m4
      gi_wp2
      exact Hfin.out
    | false =>
      have hrl : (Lib.repeatL (bl t) n).length = n * t.size := by rw [repeatL_len, Htl.out]
      have hr3 : n * t.size ≤ 3 * t.size := Nat.mul_le_mul_right _ hx3
      have cR := Tryd.strings_Repeat t n A3 (by omega) (by rw [Nat.mul_comm]; omega)
      gi_wp2_with fail
      refine ⟨trivial, (CallsIn.inRound l2 (callsIn_wide (n := 8).2 cR)).mono ?_⟩
      rintro e A3' ⟨rfl, hb3⟩
      have m3' := m3.keeps (Keeps.of_below0 hb3) (fun k y => y.elim)
      have st3' : Step none' Z3 Z3 A3 A3' := Step.same ((Keeps.of_below0 hb3).mono (fun _ _ h => h.elim)) m3.lt
      have c2 := m3'.write ⟨(Lib.repeatL (bl t) n).toArray⟩ (by rw [hol]; show _ + (Lib.repeatL (bl t) n).toArray.size ≤ _; rw [List.size_toArray, hrl]; omega)
      have hrb : bl (⟨(Lib.repeatL (bl t) n).toArray⟩ : ByteArray) = Lib.repeatL (bl t) n := rfl
      rw [hrb] at c2
      clear cR m3 hrb hb3
      gi_wp2_with fail
      refine ⟨trivial, (CallsIn.inRound l2 (callsIn_wide (n := 8).2 c2)).mono ?_⟩
      rintro e A4 ⟨rfl, v4, p4, Z4, m4, st4⟩
      clear c2 m3'
      obtain ⟨m5, st5⟩ := m4.store (f + n) (.int .i64 ((f : Int) + n)) (by rw [Int.natCast_add])
      have e4 := m4.at_
      have z4 := m4.fz
      have hfin : ∃ Z', Step none' ZZ Z' A2 (A4.setCell ⟨w.heap.size + 4, 0, none⟩ (.int .i64 ((f : Int) + n))) ∧ ((pre ++ [x]) <+: pieces (bl s) ∧ ∃ v p, MI w s t false (mfold (bl s) (repB t false) (pre ++ [x])).1 (mfold (bl s) (repB t false) (pre ++ [x])).2 v p (A4.setCell ⟨w.heap.size + 4, 0, none⟩ (.int .i64 ((f : Int) + n))) Z') := by
        refine ⟨_, ((st3.trans st3').trans st4).trans st5, hpre, v4, p4, ?_⟩
        rw [mfold_snoc]
        simp only [mstep, Ho.out, Ha.out, Hn.out]
        rw [Hbl.out, Hf.out, ← List.append_assoc]
        exact m5
      have Hfin := Lib.hid hfin
      clear hfin m5 st5 m4
      gi_wp2
      exact Hfin.out
  case hdone =>
    rintro D W' Z' hD hzD hst ⟨hp, v, p, h⟩ hd
    obtain ⟨l1, l2⟩ := Hml.out _ hp
    have hle := l2.le
    rw [Hbl.out] at hle
    have hans := Hans.out
    unfold mend at hans
    obtain ⟨o, ho⟩ : ∃ o, (mfold (bl s) (repB t whole) (pieces (bl s))).1 = o := ⟨_, rfl⟩
    obtain ⟨a, ha⟩ : ∃ a, (mfold (bl s) (repB t whole) (pieces (bl s))).2 = a := ⟨_, rfl⟩
    rw [ho, ha] at h
    rw [ha] at hle
    rw [ho, ha] at l1
    rw [ho, ha] at hans
    have hrest : bl (s.extract a s.size) = (bl s).drop a := bl_extract s a
    have hxs : (s.extract a s.size).size = s.size - a := by simp
    have cW := h.write (s.extract a s.size) (by rw [hxs]; omega)
    rw [hrest] at cW
    have e1 := h.s
    have e2 := h.at_
    have haI : (a : Int) ≤ s.size := by omega
    have Hd := Lib.hid hd
    clear hd hrest hxs l1 l2 ho ha hst
    gi_wp2_with fail
    refine ⟨trivial, (callsIn_wide (n := 8).2 cW).mono ?_⟩
    rintro e W2 ⟨rfl, v', p', Z2, h2, st2⟩
    have hd2 : W2.heap[D]? = some (.deferred (some [])) := st2.keeps.obj Hd.out (fun z => z.elim hzD (fun z => z))
    have hB : Lib.IsBuilderF 90 5 w.heap.size (w.heap.size + 3) (Lib.byteCells (o ++ (bl s).drop a)) W2 := by
      have row : W2.ownsRow w.heap.size 5 1 v' (Lib.byteCells (o ++ (bl s).drop a)).length (Lib.byteCells (o ++ (bl s).drop a)) := by
        have := h2.bd.row
        rw [show (Lib.byteCells (o ++ (bl s).drop a)).length = (o ++ (bl s).drop a).length by simp [Lib.byteCells]]
        exact this
      rcases h2.bd.p with rfl | rfl
      · exact .inl (Lib.BuilderAtF.of ⟨h2.bd.le, v', h2.bd.blk, row, h2.bd.ne⟩)
      · exact .inr (Lib.BuilderAtF.of ⟨h2.bd.le, v', h2.bd.blk, row, h2.bd.ne⟩)
    have hb2 := h2.st.size
    have cS := Tryd.Builder_String_any_k w.heap.size (w.heap.size + 3) (o ++ (bl s).drop a) W2 hB hb2
    have hD3 : some D ≠ some (w.heap.size + 3) := by intro e; injection e; omega
    obtain ⟨res, hres⟩ : ∃ res, o ++ (bl s).drop a = res := ⟨_, rfl⟩
    rw [hres] at cS hans
    subst hans
    have hbw := h2.st.below (Nat.le_refl _) (fun k z => z.elim)
    clear h h2 hB cW e1 e2 hres
    gi_wp2_with fail
    refine ⟨trivial, (callsIn_wide (n := 8).2 cS).mono ?_⟩
    rintro e W3 ⟨rfl, _, hb3, hk3⟩
    have hd3 := hk3 D _ hd2 hD3 (fun c fz e => by cases e)
    gi_wp2
    refine ⟨by simp, .inl ⟨_, _, rfl, run_takeDeferred hd3, ?_⟩⟩
    exact ⟨_, results_tmp rfl _ _ _, rfl, (hbw.trans hb3).trans (belowK_b (w := w) (Nat.le_refl _) W3 D _ _ (by omega) hd3 rfl rfl)⟩
  case hstop => exact fun D c pre W' Z' _ _ _ _ h _ => h.elim
end Go.Proofs.YtbkimhbpcmbflaaDoor.C
set_option linter.unusedVariables false
set_option linter.unusedSimpArgs false
namespace Go.Proofs.YtbkimhbpcmbflaaDoor.C
open Go Go.RowKit Go.Shelf Go.Proofs.YtbkimhbpcmbflaaDoor.M Go.Proofs.YtbkimhbpcmbflaaDoor.Z Go.Proofs.YtbkimhbpcmbflaaDoor.PAll Go.Proofs.YtbkimhbpcmbflaaDoorW.PrintWords
theorem decodeU_at (l : List UInt8) (p : Nat) (h : p < l.length) : decU l (p : Int) = (((dc (l.drop p) : Nat) : Int), ((dw (l.drop p) : Nat) : Int)) := by
  unfold decU; rw [if_neg (by omega), Int.toNat_natCast]
/-- utf.Runes -/
theorem runesfn_any (s : ByteArray) (W : World) (h46 : (sfx (bl s)).length ≤ 70368744177664) :
    Calls Tryd.prog 43 #[.string s] W fun e w' => ∃ c, e = .returned (.slice (some ⟨W.heap.size, 0, none⟩) (runes (bl s)).length c) ∧ (runes (bl s)).length ≤ c ∧ Rd w' w'.heap.size .i32 (some ⟨W.heap.size, 0, none⟩) (runes (bl s)) ∧ Below W.heap.size W w' := by
  obtain ⟨cap, W', hcv, hr, hc, hb⟩ := runes_conv s W h46
  obtain ⟨n, hn⟩ : ∃ n, (runes (bl s)).length = n := ⟨_, rfl⟩
  rw [hn] at hcv hc ⊢
  have Hr := Lib.hid hr
  clear hn hr h46
  go_enter Tryd.func43, Tryd.ntmps43
  go_wp2
  go_ret
  exact ⟨cap, rfl, hc, Hr.out, hb⟩
/-- utf.Encode -/
theorem encodefn_any (r : Int) (W : World) : Calls Tryd.prog 45 #[.int .i32 r] W fun e w' => e = .returned (.string (Utf8.encode r)) ∧ W = w' := by
  go_enter Tryd.func45, Tryd.ntmps45
  go_wp2
  go_ret
  exact ⟨rfl, rfl⟩
theorem neq_fn (p : Value) (f : Nat) (W : World) : (binOp BinOp.neq 51 (.func (.func f) #[] #[p]) .nilFunc).run Tryd.prog W = .ok (.bool true) W := by kernel_rfl
theorem c_dec1 : decU (bl ⟨#[97, 195, 169]⟩) 1 = (233, 2) := by
  show decU [97, 195, 169] ((1 : Nat) : Int) = _
  rw [decodeU_at _ _ (by decide)]
  rfl
theorem c_dec2 : decU (bl ⟨#[195]⟩) 0 = (65533, 1) := by
  show decU [195] ((0 : Nat) : Int) = _
  rw [decodeU_at _ _ (by decide)]
  rfl
theorem c_runes : runes (bl ⟨#[255, 98]⟩) = [65533, 98] := by
  show runes [255, 98] = _
  have e1 : dw [255, 98] = 1 := rfl
  have e2 : dw [98] = 1 := rfl
  unfold runes
  rw [sfx_cons (by decide), e1]
  show [((dc [255, 98] : Nat) : Int)] ++ (sfx [98]).map _ = _
  rw [sfx_cons (by decide), e2]
  show [((dc [255, 98] : Nat) : Int)] ++ ([((dc [98] : Nat) : Int)] ++ (sfx []).map _) = _
  rw [sfx_nil]
  rfl
theorem c_mend : mend (bl ⟨#[255]⟩) (repB ⟨#[63]⟩ true) = [63] := by
  show mend [255] (repB ⟨#[63]⟩ true) = _
  have hi : ill [255] = true := rfl
  have hp : pieces [255] = [([255], 1)] := by
    rw [pieces_ill (by decide) hi]
    show ([255], 1) :: pieces [] = _
    rw [pieces_nil]
  unfold mend mfold
  rw [hp]
  rfl
theorem c_full : fullP (bl ⟨#[97]⟩) = true := rfl
set_option maxHeartbeats 2000000 in
set_option maxRecDepth 1000000 in
theorem works01_any (w : World) (hT : Tabs w) :
    Calls Tryd.prog 36 #[] w fun e w' => e = .returned (.bool true) ∧ Below w.heap.size w w' := by
  have tb : ∀ {W : World}, Below w.heap.size w W → Tabs W := fun h => tabs_below hT h (Nat.le_refl _)
  have c1 := decode_any ⟨#[97, 195, 169]⟩ 1 w hT (by decide)
  rw [c_dec1] at c1
  have c2 := fun W (h : Below w.heap.size w W) => decode_any ⟨#[195]⟩ 0 W (tb h) (by decide)
  rw [c_dec2] at c2
  have c3 := fun W => runesfn_any ⟨#[255, 98]⟩ W (Nat.le_trans (sfx_len _) (by decide))
  rw [c_runes] at c3
  have c4 := fun W => encodefn_any 233 W
  rw [show Utf8.encode 233 = ⟨#[195, 169]⟩ by rfl] at c4
  have c5 := fun W (h : Below w.heap.size w W) => mend_any ⟨#[255]⟩ ⟨#[63]⟩ true W (tb h) (by decide) (by decide) (by decide)
  rw [c_mend] at c5
  have c6 := fun W (h : Below w.heap.size w W) => full_any ⟨#[97]⟩ W (tb h) (by decide)
  rw [c_full] at c6
  have c7 := fun W => allfn_any ⟨#[]⟩ W
  have hneq := neq_fn
  clear tb hT
  go_enter Tryd.func36, Tryd.ntmps36
  go_wp2_with fail
  refine c1.mono ?_
  rintro e w1 ⟨rfl, b1⟩
  go_wp2_with fail
  refine (c2 _ b1).mono ?_
  rintro e w2 ⟨rfl, b2⟩
  have b2 := b1.trans (b2.mono b1.size)
  go_wp2_with fail
  refine (c3 _).mono ?_
  rintro e w3 ⟨cap, rfl, hc, hr, b3⟩
  have b3 := b2.trans (b3.mono b2.size)
  rcases hr with h0 | ⟨ad, he, hl, hcell⟩
  · cases h0
  · injection he with he
    subst he
    have a0 : w3.cell? ⟨w2.heap.size, 0, none⟩ = some (.int .i32 65533) := hcell 0 65533 rfl
    have a1 : w3.cell? ⟨w2.heap.size, 1, none⟩ = some (.int .i32 98) := hcell 1 98 rfl
    clear hcell c1 c2 c3
    go_wp2_with fail
    refine (c4 _).mono ?_
    rintro e w4 ⟨rfl, rfl⟩
    go_wp2_with fail
    refine (c5 _ b3).mono ?_
    rintro e w5 ⟨rfl, b5⟩
    have b5 := b3.trans (b5.mono b3.size)
    go_wp2_with fail
    refine (c6 _ b5).mono ?_
    rintro e w6 ⟨rfl, b6⟩
    have b6 := b5.trans (b6.mono b5.size)
    go_wp2_with fail
    refine (c7 _).mono ?_
    rintro e w7 ⟨rfl, rfl⟩
    go_wp2
    go_ret
    exact ⟨rfl, b6.alloc b6.size _⟩
end Go.Proofs.YtbkimhbpcmbflaaDoor.C
set_option linter.unusedVariables false
set_option linter.unusedSimpArgs false
set_option maxRecDepth 100000
namespace Go.Proofs.YtbkimhbpcmbflaaDoor.C
open Go Go.RowKit Go.Proofs.YtbkimhbpcmbflaaDoor.M Go.Proofs.YtbkimhbpcmbflaaDoor.PAll Go.Proofs.YtbkimhbpcmbflaaDoorW.PrintWords
theorem lead_ref : ∀ c : Nat, c < 256 → glossaryref01_lead.f (c : Int) = some (((leadN c : Nat) : Int), (((if leadN c ≤ 1 then 0 else leadLo c) : Nat) : Int), (((if leadN c ≤ 1 then 0 else leadHi c) : Nat) : Int)) := by
  decide +kernel
theorem bt_in {s : ByteArray} {p : Nat} (h : p < s.size) : Go.Proofs.YtbkimhbpcmbflaaDoorW.PrintWords.bt s (p : Int) = (M.bt (bl s) p : Nat) := by
  have e : Go.Proofs.YtbkimhbpcmbflaaDoorW.PrintWords.bt s (p : Int) = ((s[p]'h).toNat : Int) := by unfold Go.Proofs.YtbkimhbpcmbflaaDoorW.PrintWords.bt; rw [dif_pos (by rw [Int.toNat_natCast]; exact h)]; simp
  rw [e, byte_at h]
  show ((M.bt ((bl s).drop p) 0 : Nat) : Int) = _
  rw [bt_drop, Nat.add_zero]
theorem bg_step {l : List UInt8} {i : Nat} (h1 : 1 ≤ i) (hi : i < nb l) (hb : i ≤ bg l) : (i < bg l ↔ (if i = 1 then leadLo (M.bt l 0) ≤ M.bt l 1 ∧ M.bt l 1 ≤ leadHi (M.bt l 0) else 128 ≤ M.bt l i ∧ M.bt l i ≤ 191)) := by
  have h4 := nb_le l
  rw [bg_def, nb_def] at *
  unfold bgN at *
  have : i = 1 ∨ i = 2 ∨ i = 3 := by omega
  rcases this with rfl | rfl | rfl
  · rw [if_pos rfl]
    repeat' split at hb
    all_goals (repeat' split)
    all_goals omega
  · rw [if_neg (show ¬ 2 = 1 by decide)]
    repeat' split at hb
    all_goals (repeat' split)
    all_goals omega
  · rw [if_neg (show ¬ 3 = 1 by decide)]
    repeat' split at hb
    all_goals (repeat' split)
    all_goals omega
theorem within_ref (a b c : Nat) : glossaryref01_within.f (a : Int) (b : Int) (c : Int) = some (decide (b ≤ a ∧ a ≤ c)) := by
  unfold glossaryref01_within.f
  by_cases h : b ≤ a
  · rw [if_pos (by omega)]
    by_cases h2 : a ≤ c
    · rw [decide_eq_true (by omega), decide_eq_true (by omega)]
    · rw [decide_eq_false (by omega), decide_eq_false (by omega)]
  · rw [if_neg (by omega), decide_eq_false (by omega)]
theorem begun_l0 (s : ByteArray) (hs : s.size ≤ 140737488351232) (p : Nat) (hp : p < s.size) (t : List UInt8) (ht : (bl s).drop p = t) : ∀ d i k : Nat, i + d = nb t → 1 ≤ i → i ≤ bg t → d < k →
    glossaryref01_Begun.l0 k s p (nb t : Nat) (leadLo (M.bt t 0) : Nat) (leadHi (M.bt t 0) : Nat) i = some (((bg t : Nat) : Int), ((nb t : Nat) : Int)) := by
  have h4 := nb_le t
  have hbn := bg_nb t
  intro d
  induction d with
  | zero =>
    intro i k hi h1 hb hk
    obtain ⟨k, rfl⟩ : ∃ m, k = m + 1 := ⟨k - 1, by omega⟩
    have e : i = nb t := by omega
    have e2 : bg t = nb t := by omega
    simp only [glossaryref01_Begun.l0]
    rw [if_neg (by omega), e, e2]
  | succ d ih =>
    intro i k hi h1 hb hk
    obtain ⟨k, rfl⟩ : ∃ m, k = m + 1 := ⟨k - 1, by omega⟩
    have hstep := bg_step (l := t) h1 (by omega) hb
    have hw : wrap64 ((p : Int) + (i : Int)) = ((p + i : Nat) : Int) := by rw [w64 (by omega) (by omega)]; omega
    have hw1 : wrap64 ((i : Int) + 1) = ((i + 1 : Nat) : Int) := by rw [w64 (by omega) (by omega)]; omega
    simp only [glossaryref01_Begun.l0]
    rw [if_pos (by omega), hw]
    have hne : t ≠ [] := by rw [← ht]; exact bl_nonempty hp
    have htl : t.length = s.size - p := by rw [← ht, List.length_drop, bl_len]
    by_cases hlt : p + i < s.size
    · rw [if_pos (by omega)]
      have hbt : Go.Proofs.YtbkimhbpcmbflaaDoorW.PrintWords.bt s ((p + i : Nat) : Int) = (M.bt t i : Nat) := by rw [bt_in hlt, ← ht, bt_drop]
      rw [hbt]
      by_cases h2 : i = 1
      · subst h2
        rw [if_pos rfl] at hstep
        rw [if_pos (by rfl), if_pos (by omega), within_ref]
        simp only [Option.bind_some]
        by_cases hc : leadLo (M.bt t 0) ≤ M.bt t 1 ∧ M.bt t 1 ≤ leadHi (M.bt t 0)
        · rw [decide_eq_true hc, if_pos rfl, hw1]
          exact ih (1 + 1) k (by omega) (by omega) (by have := hstep.2 hc; omega) (by omega)
        · rw [decide_eq_false hc, if_neg (by decide), if_neg (by decide)]
          have : ¬ 1 < bg t := fun h => hc (hstep.1 h)
          have e : bg t = 1 := by omega
          rw [e]
      · rw [if_neg h2] at hstep
        have w2 := within_ref (M.bt t i) 128 191
        rw [if_neg (by omega), if_pos (by omega), if_pos (by omega)]
        rw [show ((128 : Nat) : Int) = 128 from rfl, show ((191 : Nat) : Int) = 191 from rfl] at w2
        rw [w2]
        simp only [Option.bind_some]
        by_cases hc : 128 ≤ M.bt t i ∧ M.bt t i ≤ 191
        · rw [decide_eq_true hc, if_pos rfl, hw1]
          exact ih (i + 1) k (by omega) (by omega) (by have := hstep.2 hc; omega) (by omega)
        · rw [decide_eq_false hc, if_neg (by decide)]
          have : ¬ i < bg t := fun h => hc (hstep.1 h)
          have e : bg t = i := by omega
          rw [e]
    · rw [if_neg (by omega)]
      have := bg_len hne
      have e : bg t = i := by omega
      rw [e]
/-- Begun, in plain words -/
theorem begun_ref (s : ByteArray) (hs : s.size ≤ 140737488351232) (p : Nat) (hp : p < s.size) : ∀ k, 4 ≤ k → glossaryref01_Begun.f k s p = some (((bg ((bl s).drop p) : Nat) : Int), ((nb ((bl s).drop p) : Nat) : Int)) := by
  intro k hk
  unfold glossaryref01_Begun.f
  rw [if_pos (by omega), if_pos (by omega), bt_in hp, lead_ref _ (M.bt_lt _ _)]
  simp only [Option.bind_some]
  have hb0 : M.bt (bl s) p = M.bt ((bl s).drop p) 0 := by rw [bt_drop, Nat.add_zero]
  have hn : leadN (M.bt (bl s) p) = nb ((bl s).drop p) := by rw [hb0]; rfl
  obtain ⟨t, ht⟩ : ∃ t, (bl s).drop p = t := ⟨_, rfl⟩
  rw [hn, hb0, ht]
  have hbn := bg_nb t
  have h4 := nb_le t
  by_cases h0 : nb t = 0
  · rw [if_pos (by omega), h0, show bg t = 0 by omega]; rfl
  · rw [if_neg (by omega)]
    have h1 : 1 ≤ bg t := by
      rw [bg_def]; rw [nb_def] at h0
      unfold bgN
      repeat' split
      all_goals omega
    by_cases h2 : nb t ≤ 1
    · rw [if_pos h2, if_pos h2]
      obtain ⟨k, rfl⟩ : ∃ m, k = m + 1 := ⟨k - 1, by omega⟩
      have e : nb t = 1 := by omega
      have e2 : bg t = 1 := by omega
      simp only [glossaryref01_Begun.l0]
      rw [e, e2]
      rfl
    · rw [if_neg h2, if_neg h2]
      exact begun_l0 s hs p hp t ht (nb t - 1) 1 k (by omega) (by omega) h1 (by omega)
end Go.Proofs.YtbkimhbpcmbflaaDoor.C
set_option linter.unusedVariables false
set_option linter.unusedSimpArgs false
set_option maxRecDepth 100000
namespace Go.Proofs.YtbkimhbpcmbflaaDoor.C
open Go Go.RowKit Go.Proofs.YtbkimhbpcmbflaaDoor.M Go.Proofs.YtbkimhbpcmbflaaDoor.PAll Go.Proofs.YtbkimhbpcmbflaaDoorW.PrintWords
theorem wide_ref (s : ByteArray) (hs : s.size ≤ 140737488351232) (p : Nat) (hp : p < s.size) (k : Nat) (hk : 4 ≤ k) : glossaryref01_Wide.f k s p = some (((if ill ((bl s).drop p) = true then 0 else dw ((bl s).drop p)) : Nat) : Int) := by
  unfold glossaryref01_Wide.f
  rw [begun_ref s hs p hp k hk]
  simp only [Option.bind_some]
  rcases ill_or (bl_nonempty hp) with ⟨a, b, _⟩ | ⟨a, b, c, d, _⟩
  · rw [if_pos a]
    rcases b with b | b
    · rw [if_neg (by omega)]; rfl
    · have := bg_nb ((bl s).drop p)
      rw [if_pos (by omega), b]
  · have hn : ¬ ill ((bl s).drop p) = true := by rw [a]; decide
    rw [if_neg hn, if_pos (by omega), d]
theorem num_end (k : Nat) (x : ByteArray) (v : Int) (i : Nat) (h : x.size ≤ i) : glossaryref01_number.l0 (k + 1) x v i = some v := by
  simp only [glossaryref01_number.l0]
  rw [if_neg (by omega)]
theorem tmod_nat (a b : Nat) : Int.tmod ((a : Nat) : Int) ((b : Nat) : Int) = ((a % b : Nat) : Int) := by
  rw [Int.tmod_eq_emod_of_nonneg (by omega)]; omega
theorem num_next (k : Nat) (x : ByteArray) (v i : Nat) (h0 : 1 ≤ i) (hi : i < x.size) (h2 : 2 ≤ x.size) (h4 : x.size ≤ 4) (hv : v ≤ 32767) :
    glossaryref01_number.l0 (k + 1) x v i = glossaryref01_number.l0 k x ((v * 64 + M.bt (bl x) i % 64 : Nat) : Int) ((i + 1 : Nat) : Int) := by
  have hb := M.bt_lt (bl x) i
  have e1 : wrap32 ((v : Int) * 64) = ((v * 64 : Nat) : Int) := by rw [w32 (by omega) (by omega)]; omega
  have e2 : wrap32 ((M.bt (bl x) i : Nat) : Int) = ((M.bt (bl x) i : Nat) : Int) := w32 (by omega) (by omega)
  have e3 : Int.tmod ((M.bt (bl x) i : Nat) : Int) 64 = ((M.bt (bl x) i % 64 : Nat) : Int) := tmod_nat _ 64
  have e4 : wrap32 (((v * 64 : Nat) : Int) + ((M.bt (bl x) i % 64 : Nat) : Int)) = ((v * 64 + M.bt (bl x) i % 64 : Nat) : Int) := by rw [w32 (by omega) (by omega)]; omega
  have e5 : wrap64 ((i : Int) + 1) = ((i + 1 : Nat) : Int) := by rw [w64 (by omega) (by omega)]; omega
  have c1 : (i : Int) < (x.size : Int) := by omega
  have c2 : ¬ ((x.size : Int) = 1) := by omega
  have c3 : (i : Int) > 0 := by omega
  have c4 : 0 ≤ (i : Int) := by omega
  simp only [glossaryref01_number.l0]
  rw [if_pos c1, if_neg c2, if_pos c3, if_pos c4, bt_in hi, e1, e2, e3, e4, e5]
def headBits (w b : Nat) : Nat := if w = 1 then b else if w = 2 then b % 32 else if w = 3 then b % 16 else b % 8
theorem num_first (k : Nat) (x : ByteArray) (h1 : 1 ≤ x.size) (h4 : x.size ≤ 4) :
    glossaryref01_number.l0 (k + 1) x 0 0 = glossaryref01_number.l0 k x ((headBits x.size (M.bt (bl x) 0) : Nat) : Int) ((1 : Nat) : Int) := by
  have hb := M.bt_lt (bl x) 0
  have e2 : wrap32 ((M.bt (bl x) 0 : Nat) : Int) = ((M.bt (bl x) 0 : Nat) : Int) := w32 (by omega) (by omega)
  have e5 : wrap64 ((0 : Int) + 1) = ((1 : Nat) : Int) := by rw [w64 (by omega) (by omega)]; rfl
  have hbt := bt_in (s := x) (p := 0) h1
  rw [show ((0 : Nat) : Int) = 0 from rfl] at hbt
  have t32 : Int.tmod ((M.bt (bl x) 0 : Nat) : Int) 32 = ((M.bt (bl x) 0 % 32 : Nat) : Int) := tmod_nat _ 32
  have t16 : Int.tmod ((M.bt (bl x) 0 : Nat) : Int) 16 = ((M.bt (bl x) 0 % 16 : Nat) : Int) := tmod_nat _ 16
  have t8 : Int.tmod ((M.bt (bl x) 0 : Nat) : Int) 8 = ((M.bt (bl x) 0 % 8 : Nat) : Int) := tmod_nat _ 8
  have c1 : (0 : Int) < (x.size : Int) := by omega
  have c3 : ¬ ((0 : Int) > 0) := by omega
  have c4 : (0 : Int) ≤ 0 := by omega
  have key : x.size = 1 ∨ x.size = 2 ∨ x.size = 3 ∨ x.size = 4 := by omega
  simp only [glossaryref01_number.l0, headBits]
  rcases key with h | h | h | h
  · have d1 : (x.size : Int) = 1 := by omega
    rw [if_pos c1, if_pos d1, if_pos c4, hbt, e2, e5, if_pos h]
  · have d1 : ¬ (x.size : Int) = 1 := by omega
    have d2 : (x.size : Int) = 2 := by omega
    have n1 : ¬ x.size = 1 := by omega
    rw [if_pos c1, if_neg d1, if_neg c3, if_pos d2, if_pos c4, hbt, e2, t32, e5, if_neg n1, if_pos h]
  · have d1 : ¬ (x.size : Int) = 1 := by omega
    have d2 : ¬ (x.size : Int) = 2 := by omega
    have d3 : (x.size : Int) = 3 := by omega
    have n1 : ¬ x.size = 1 := by omega
    have n2 : ¬ x.size = 2 := by omega
    rw [if_pos c1, if_neg d1, if_neg c3, if_neg d2, if_pos d3, if_pos c4, hbt, e2, t16, e5, if_neg n1, if_neg n2, if_pos h]
  · have d1 : ¬ (x.size : Int) = 1 := by omega
    have d2 : ¬ (x.size : Int) = 2 := by omega
    have d3 : ¬ (x.size : Int) = 3 := by omega
    have n1 : ¬ x.size = 1 := by omega
    have n2 : ¬ x.size = 2 := by omega
    have n3 : ¬ x.size = 3 := by omega
    rw [if_pos c1, if_neg d1, if_neg c3, if_neg d2, if_neg d3, if_pos c4, hbt, e2, t8, e5, if_neg n1, if_neg n2, if_neg n3]
/-- the number of a character, out of its bytes -/
theorem number_ref (x : ByteArray) (hne : bl x ≠ []) (hi : ill (bl x) = false) (hw : dw (bl x) = x.size) (k : Nat) (hk : 6 ≤ k) : glossaryref01_number.f k x = some ((dc (bl x) : Nat) : Int) := by
  obtain ⟨k, rfl⟩ : ∃ m, k = m + 1 + 1 + 1 + 1 + 1 := ⟨k - 5, by omega⟩
  rcases ill_or hne with ⟨a, _⟩ | ⟨_, b, c, d, e⟩
  · rw [hi] at a; cases a
  · have h4 := nb_le (bl x)
    have hn : nb (bl x) = x.size := by omega
    rw [hn] at e c h4
    have b0 := M.bt_lt (bl x) 0
    have b1 := M.bt_lt (bl x) 1
    have b2 := M.bt_lt (bl x) 2
    unfold glossaryref01_number.f
    rw [num_first _ x c h4]
    have key : x.size = 1 ∨ x.size = 2 ∨ x.size = 3 ∨ x.size = 4 := by omega
    rcases key with h | h | h | h
    · rw [num_end _ _ _ _ (by omega), e, h]; rfl
    · rw [num_next _ _ _ _ (by omega) (by omega) (by omega) h4 (by rw [h]; unfold headBits; simp; omega), num_end _ _ _ _ (by omega), e, h]; rfl
    · rw [num_next _ _ _ _ (by omega) (by omega) (by omega) h4 (by rw [h]; unfold headBits; simp; omega), num_next _ _ _ _ (by omega) (by omega) (by omega) h4 (by rw [h]; unfold headBits; simp; omega), num_end _ _ _ _ (by omega), e, h]
      unfold headBits
      simp only [Nat.reduceEqDiff, if_false, if_true, Nat.reduceAdd]
      congr 1; omega
    · rw [num_next _ _ _ _ (by omega) (by omega) (by omega) h4 (by rw [h]; unfold headBits; simp; omega), num_next _ _ _ _ (by omega) (by omega) (by omega) h4 (by rw [h]; unfold headBits; simp; omega), num_next _ _ _ _ (by omega) (by omega) (by omega) h4 (by rw [h]; unfold headBits; simp; omega), num_end _ _ _ _ (by omega), e, h]
      unfold headBits
      simp only [Nat.reduceEqDiff, if_false, if_true, Nat.reduceAdd]
      congr 1; omega
theorem dc_take {r : List UInt8} (hr : r ≠ []) (hi : ill r = false) : dc (r.take (dw r)) = dc r ∧ dw (r.take (dw r)) = dw r ∧ ill (r.take (dw r)) = false := by
  have hok := okc_dc hr
  have e := take_enc hr hi
  have h1 := dc_enc hok []
  have h2 := dw_enc hok []
  rw [List.append_nil] at h1 h2
  have hl : (r.take (dw r)).length = dw r := by rw [List.length_take]; have := dw_len hr; omega
  rw [e] at hl ⊢
  refine ⟨h1, by rw [h2, hl], ?_⟩
  cases hx : ill (enc (dc r)) with
  | false => rfl
  | true =>
    have hh : dc (enc (dc r)) = 65533 ∧ dw (enc (dc r)) = 1 := by simpa [ill] using hx
    rw [h1, h2, hl] at hh
    have : ill r = true := by simp [ill, hh.1, hh.2]
    rw [hi] at this; cases this
/-- Decode, in plain words -/
theorem decode_ref (s : ByteArray) (hs : s.size ≤ 140737488351232) (a : Int) (ha : -9223372036854775808 ≤ a ∧ a ≤ 9223372036854775807) : glossaryref01_Decode.f 8 s a = some ((decU (bl s) a).1, (decU (bl s) a).2) := by
  unfold glossaryref01_Decode.f decU
  rw [bl_len]
  by_cases h0 : a < 0
  · rw [if_pos h0, if_pos (.inl h0)]
    simp only [glossaryref01_Decode.j0]
    rfl
  · rw [if_neg h0]
    by_cases h1 : (s.size : Int) ≤ a
    · rw [if_pos (.inr h1), decide_eq_true (show a ≥ (s.size : Int) from h1)]
      simp only [glossaryref01_Decode.j0]
      rfl
    · rw [if_neg (by omega), decide_eq_false (by omega)]
      obtain ⟨p, rfl⟩ : ∃ p : Nat, a = p := ⟨a.toNat, by omega⟩
      have hp : p < s.size := by omega
      have hne := bl_nonempty hp
      have hwl := dw_len hne
      have hw1 := dw_pos hne
      have hn4 := d_facts hne
      rw [List.length_drop, bl_len] at hwl
      simp only [glossaryref01_Decode.j0]
      rw [if_neg (by decide), wide_ref s hs p hp 7 (by omega), Int.toNat_natCast]
      simp only [Option.bind_some]
      cases hi : ill ((bl s).drop p) with
      | true =>
        have hh : dc ((bl s).drop p) = 65533 ∧ dw ((bl s).drop p) = 1 := by simpa [ill] using hi
        rw [if_pos rfl, if_pos (by rfl), hh.1, hh.2]; rfl
      | false =>
        obtain ⟨d, hd⟩ : ∃ d, dw ((bl s).drop p) = d := ⟨_, rfl⟩
        have e1 : (p : Int) + ((d : Nat) : Int) = ((p + d : Nat) : Int) := by omega
        have hw : wrap64 ((p : Int) + ((d : Nat) : Int)) = ((p + d : Nat) : Int) := by rw [w64 (by omega) (by omega)]; omega
        have hx : bl (s.extract p (p + d)) = ((bl s).drop p).take d := by rw [bl_cut (by omega), List.drop_take]; congr 1; omega
        obtain ⟨t1, t2, t3⟩ := dc_take hne hi
        rw [hd] at t1 t2 t3
        have hsz : (s.extract p (p + d)).size = d := by simp; omega
        have hnum := number_ref (s.extract p (p + d)) (by rw [hx]; intro e; have := congrArg List.length e; rw [List.length_take, List.length_drop, bl_len] at this; simp at this; omega) (by rw [hx]; exact t3) (by rw [hx, t2, hsz]) 7 (by omega)
        rw [hx, t1] at hnum
        have e0 : (if false = true then 0 else dw ((bl s).drop p)) = d := by rw [if_neg (by decide)]; exact hd
        rw [e0, if_neg (by omega), hw, if_pos (by omega), if_pos (by omega), if_pos (by omega)]
        simp only [Int.toNat_natCast]
        rw [hnum]
        simp only [Option.bind_some]
        rw [hd]
/-- what Before answers -/
def befU (l : List UInt8) (a : Int) : Int × Int := if a < 1 ∨ (l.length : Int) < a then (65533, 0) else (((Lib.decodeLastL (l.take a.toNat)).1 : Nat), ((Lib.decodeLastL (l.take a.toNat)).2 : Nat))
end Go.Proofs.YtbkimhbpcmbflaaDoor.C
set_option linter.unusedVariables false
set_option linter.unusedSimpArgs false
set_option maxRecDepth 100000
namespace Go.Proofs.YtbkimhbpcmbflaaDoor.C
open Go Go.RowKit Go.Proofs.YtbkimhbpcmbflaaDoor.M Go.Proofs.YtbkimhbpcmbflaaDoor.PAll Go.Proofs.YtbkimhbpcmbflaaDoorW.PrintWords
theorem leo_up {α : Type} {f : Nat → Option α} (hm : ∀ k, LeO (f k) (f (k + 1))) {k : Nat} {r : α} (hr : f k = some r) : ∀ m, k ≤ m → f m = some r := by
  intro m hkm
  induction m with
  | zero => obtain rfl : k = 0 := by omega
            exact hr
  | succ m ih =>
    by_cases h : k = m + 1
    · subst h; exact hr
    · exact hm m _ (ih (by omega))
theorem decode_up (s : ByteArray) (hs : s.size ≤ 140737488351232) (p : Nat) (hp : p < s.size) (k : Nat) (hk : 8 ≤ k) : glossaryref01_Decode.f k s (p : Int) = some (((dc ((bl s).drop p) : Nat) : Int), ((dw ((bl s).drop p) : Nat) : Int)) := by
  have h := decode_ref s hs (p : Int) ⟨by omega, by omega⟩
  rw [decodeU_at _ _ (by rw [bl_len]; exact hp)] at h
  exact leo_up (f := fun k => glossaryref01_Decode.f k s (p : Int)) (fun k => glossaryref01_Decode.mono _ _ k) h k hk
/-- where the units begin -/
def starts (l : List UInt8) : List Int := (sfx l).map fun t => ((l.length - t.length : Nat) : Int)
theorem places_l0 (s : ByteArray) (hs : s.size ≤ 1048576) : ∀ n p k : Nat, s.size ≤ p + n → p ≤ s.size → n + 9 ≤ k → ∀ acc : List Int, acc.length ≤ p →
    glossaryref01_Places.l0 k s acc p = some (acc ++ (sfx ((bl s).drop p)).map fun t => ((s.size - t.length : Nat) : Int)) := by
  intro n
  induction n with
  | zero =>
    intro p k h1 h2 hk acc _
    obtain ⟨k, rfl⟩ : ∃ m, k = m + 1 := ⟨k - 1, by omega⟩
    simp only [glossaryref01_Places.l0]
    rw [if_neg (by omega), List.drop_of_length_le (by rw [bl_len]; omega), sfx_nil]; simp
  | succ n ih =>
    intro p k h1 h2 hk acc hacc
    obtain ⟨k, rfl⟩ : ∃ m, k = m + 1 := ⟨k - 1, by omega⟩
    simp only [glossaryref01_Places.l0]
    by_cases hp : p < s.size
    · obtain ⟨t, ht⟩ : ∃ t, (bl s).drop p = t := ⟨_, rfl⟩
      have hne : t ≠ [] := by rw [← ht]; exact bl_nonempty hp
      have htl : t.length = s.size - p := by rw [← ht, List.length_drop, bl_len]
      have hd := decode_up s (by omega) p hp k (by omega)
      have h1' := dw_pos hne
      have h2' := dw_len hne
      rw [if_pos (by omega), if_pos (by omega), hd]
      simp only [Option.bind_some]
      rw [ht]
      have hw : wrap64 ((p : Int) + ((dw t : Nat) : Int)) = ((p + dw t : Nat) : Int) := by rw [w64 (by omega) (by omega)]; omega
      have e2 : (bl s).drop (p + dw t) = t.drop (dw t) := by rw [← ht, List.drop_drop]
      rw [hw, ih (p + dw t) k (by omega) (by omega) (by omega) (acc ++ [(p : Int)]) (by rw [List.length_append, List.length_singleton]; omega), sfx_cons hne, List.map_cons, e2, List.append_assoc, List.singleton_append]
      rw [show s.size - t.length = p by omega]
    · rw [if_neg (by omega), List.drop_of_length_le (by rw [bl_len]; omega), sfx_nil]; simp
theorem places_ref (s : ByteArray) (hs : s.size ≤ 1048576) (k : Nat) (hk : s.size + 9 ≤ k) : glossaryref01_Places.f k s = some (starts (bl s)) := by
  unfold glossaryref01_Places.f starts
  have := places_l0 s hs s.size 0 k (by omega) (by omega) (by omega) [] (by simp)
  rw [List.drop_zero, List.nil_append] at this
  rw [bl_len]
  exact this
theorem starts_len (l : List UInt8) : (starts l).length = (sfx l).length := by unfold starts; rw [List.length_map]
/-- the unit number i -/
theorem starts_at {l : List UInt8} {pre rest : List (List UInt8)} {t : List UInt8} (h : sfx l = pre ++ t :: rest) : rd (starts l) (pre.length : Int) = ((l.length - t.length : Nat) : Int) := by
  refine rd_some ?_
  unfold starts
  rw [h, List.getElem?_map, List.getElem?_append_right (Nat.le_refl _)]
  simp
theorem unit_at {s : ByteArray} {pre rest : List (List UInt8)} {t : List UInt8} (h : sfx (bl s) = pre ++ t :: rest) : t ≠ [] ∧ s.size - t.length < s.size ∧ (bl s).drop (s.size - t.length) = t := by
  have hne : t ≠ [] := sfx_ne (l := bl s) (by rw [h]; simp)
  have h2 : sfx (bl s) = pre ++ sfx t := by
    have e : ∀ (pre : List (List UInt8)) (l : List UInt8), sfx l = pre ++ t :: rest → sfx l = pre ++ sfx t := by
      intro pre
      induction pre with
      | nil =>
        intro l hl
        by_cases hn : l = []
        · subst hn; rw [sfx_nil] at hl; cases hl
        · have hl' := hl
          rw [sfx_cons hn, List.nil_append] at hl'
          injection hl' with e1 e2
          rw [e1] at hl
          rw [← e1, List.nil_append]
      | cons x pre ih =>
        intro l hl
        by_cases hn : l = []
        · subst hn; rw [sfx_nil] at hl; cases hl
        · have hl' := hl
          rw [sfx_cons hn, List.cons_append] at hl'
          injection hl' with e1 e2
          rw [sfx_cons hn, ih _ e2, e1, List.cons_append]
    exact e pre _ h
  have hu := units_drop h2 hne
  rw [bl_len] at hu
  have := List.length_pos_iff.2 hne
  exact ⟨hne, by omega, hu.2.symm⟩
theorem runes_l0 (s : ByteArray) (hs : s.size ≤ 1048576) : ∀ (rest pre : List (List UInt8)) (k : Nat), sfx (bl s) = pre ++ rest → rest.length + 9 ≤ k →
    glossaryref01_Runes.l0 k s (pre.map fun t => ((dc t : Nat) : Int)) (starts (bl s)) (pre.length : Int) = some (runes (bl s)) := by
  intro rest
  have hlen : (sfx (bl s)).length ≤ s.size := by have := sfx_len (bl s); rw [bl_len] at this; exact this
  induction rest with
  | nil =>
    intro pre k h hk
    obtain ⟨k, rfl⟩ : ∃ m, k = m + 1 := ⟨k - 1, by omega⟩
    simp only [glossaryref01_Runes.l0]
    rw [List.append_nil] at h
    rw [if_neg (by rw [starts_len, h]; omega)]
    unfold runes
    rw [h]
  | cons t rest ih =>
    intro pre k h hk
    obtain ⟨k, rfl⟩ : ∃ m, k = m + 1 := ⟨k - 1, by omega⟩
    obtain ⟨u1, u2, u3⟩ := unit_at h
    have hl := congrArg List.length h
    rw [List.length_append, List.length_cons] at hl
    have hih := ih (pre ++ [t]) k (by rw [h]; simp) (by simp at hk; omega)
    rw [List.map_append, List.length_append] at hih
    have hd := decode_up s (by omega) (s.size - t.length) u2 k (by simp at hk; omega)
    rw [u3] at hd
    simp only [glossaryref01_Runes.l0]
    rw [if_pos (by rw [starts_len]; omega), if_pos (by omega), starts_at h, bl_len, hd]
    simp only [Option.bind_some]
    rw [if_pos (by rw [List.length_map]; omega), wi _ (by omega)]
    exact hih
theorem runes01_ref (s : ByteArray) (hs : s.size ≤ 1048576) (k : Nat) (hk : s.size + 9 ≤ k) : glossaryref01_Runes.f k s = some (runes (bl s)) := by
  have hlen : (sfx (bl s)).length ≤ s.size := by have := sfx_len (bl s); rw [bl_len] at this; exact this
  unfold glossaryref01_Runes.f
  rw [places_ref s hs k hk]
  simp only [Option.bind_some]
  exact runes_l0 s hs _ [] k rfl (by omega)
end Go.Proofs.YtbkimhbpcmbflaaDoor.C
set_option linter.unusedVariables false
set_option linter.unusedSimpArgs false
namespace Go.Proofs.YtbkimhbpcmbflaaDoor.C
open Go Go.RowKit Go.Shelf Go.Proofs.YtbkimhbpcmbflaaDoor.M Go.Proofs.YtbkimhbpcmbflaaDoor.PAll Go.Proofs.YtbkimhbpcmbflaaDoorW.PrintWords
set_option maxHeartbeats 1000000 in
set_option maxRecDepth 100000 in
/-- utf.Before -/
theorem beforefn_any (s : ByteArray) (a : Int) (w : World) (hT : Tabs w) (hs : s.size ≤ 140737488351232) :
    Calls Tryd.prog 73 #[.string s, .int .i64 a] w fun e w' => e = .returned (.tuple #[.int .i32 (befU (bl s) a).1, .int .i64 (befU (bl s) a).2]) ∧ Below w.heap.size w w' := by
  have hbl := bl_len s
  by_cases h : a < 1 ∨ (s.size : Int) < a
  · have e : befU (bl s) a = (65533, 0) := by unfold befU; rw [hbl, if_pos h]
    rw [e]
    clear e hbl
    by_cases h1 : a < 1
    · clear h
      go_enter Tryd.func73, Tryd.ntmps73
      go_wp2
      go_ret2
      exact ⟨rfl, Below.refl _ _⟩
    · have h2 : (s.size : Int) < a := by omega
      have h1' : 1 ≤ a := by omega
      have h1b : decide (a < 1) = false := by simp; omega
      clear h h1
      go_enter Tryd.func73, Tryd.ntmps73
      go_wp2
      go_ret2
      exact ⟨rfl, Below.refl _ _⟩
  · obtain ⟨p, rfl⟩ : ∃ p : Nat, a = p := ⟨a.toNat, by omega⟩
    have h1 : (1 : Int) ≤ (p : Int) := by omega
    have h2 : (p : Int) ≤ s.size := by omega
    have h1b : decide ((p : Int) < 1) = false := by simp; omega
    have h2b : decide ((s.size : Int) < (p : Int)) = false := by simp; omega
    have e : befU (bl s) (p : Int) = ((((Lib.decodeLastL ((bl s).take p)).1 : Nat) : Int), (((Lib.decodeLastL ((bl s).take p)).2 : Nat) : Int)) := by unfold befU; rw [hbl, if_neg h, Int.toNat_natCast]
    have hx : bl (s.extract 0 p) = (bl s).take p := by rw [bl_cut (by omega), List.drop_zero]
    have cL := Tryd.utf8_DecodeLastRuneInString (s.extract 0 p) w (by simp; omega) hT
    have hx2 : (s.extract 0 p).data.toList = (bl s).take p := hx
    rw [hx2] at cL
    rw [e]
    obtain ⟨c, hc⟩ : ∃ c, (Lib.decodeLastL ((bl s).take p)).1 = c := ⟨_, rfl⟩
    obtain ⟨d, hd⟩ : ∃ d, (Lib.decodeLastL ((bl s).take p)).2 = d := ⟨_, rfl⟩
    rw [hc, hd] at cL ⊢
    clear e hx hx2 hc hd h hbl
    go_enter Tryd.func73, Tryd.ntmps73
    go_wp2_with fail
    refine cL.mono ?_
    rintro e w1 ⟨rfl, hb⟩
    go_wp2
    go_ret2
    exact ⟨rfl, hb⟩
end Go.Proofs.YtbkimhbpcmbflaaDoor.C
set_option linter.unusedVariables false
set_option linter.unusedSimpArgs false
namespace Go.Proofs.YtbkimhbpcmbflaaDoor.C
open Go Go.RowKit Go.Shelf Go.Proofs.YtbkimhbpcmbflaaDoor.M Go.Proofs.YtbkimhbpcmbflaaDoor.Z
theorem sfx_mid (t : List UInt8) (rest : List (List UInt8)) : ∀ (us : List (List UInt8)) (l : List UInt8), sfx l = us ++ t :: rest → t ≠ [] ∧ t :: rest = sfx t
  | [], l, h => by
    have hl : l ≠ [] := by
      rintro rfl
      rw [sfx_nil] at h
      simp at h
    rw [sfx_cons hl] at h
    injection h with h1 h2
    subst h1
    exact ⟨hl, by rw [sfx_cons hl, h2]⟩
  | x :: us, l, h => by
    have hl : l ≠ [] := by
      rintro rfl
      rw [sfx_nil] at h
      simp at h
    rw [sfx_cons hl] at h
    injection h with h1 h2
    exact sfx_mid t rest us _ h2
theorem sfx_inj {l : List UInt8} {p q : Nat} (hp : p ≤ l.length) (hq : q ≤ l.length) (h : sfx (l.drop p) = sfx (l.drop q)) : p = q := by
  by_cases h1 : l.drop p = []
  · by_cases h2 : l.drop q = []
    · have a := List.drop_eq_nil_iff.1 h1
      have b := List.drop_eq_nil_iff.1 h2
      omega
    · rw [h1, sfx_nil, sfx_cons h2] at h
      simp at h
  · by_cases h2 : l.drop q = []
    · rw [h2, sfx_nil, sfx_cons h1] at h
      simp at h
    · rw [sfx_cons h1, sfx_cons h2] at h
      injection h with h3 _
      have := congrArg List.length h3
      rw [List.length_drop, List.length_drop] at this
      omega
theorem back_unit {l : List UInt8} {us : List (List UInt8)} {p : Nat} (h : sfx l = us ++ sfx (l.drop p)) (h0 : 0 < p) (hp : p ≤ l.length) :
    ∃ us' t, us = us' ++ [t] ∧ t ≠ [] ∧ dw t ≤ p ∧ l.drop (p - dw t) = t ∧ sfx l = us' ++ sfx (l.drop (p - dw t)) ∧ befU l (p : Int) = (((dc t : Nat) : Int), ((dw t : Nat) : Int)) ∧ l.length - t.length = p - dw t ∧ sfx (l.drop (p - dw t)) = t :: sfx (l.drop p) := by
  have hne : us ≠ [] := by
    rintro rfl
    rw [List.nil_append] at h
    have := sfx_inj (l := l) (p := 0) (q := p) (by omega) hp (by simpa using h)
    omega
  obtain ⟨us', t, rfl⟩ : ∃ us' t, us = us' ++ [t] := ⟨us.dropLast, us.getLast hne, (List.dropLast_concat_getLast hne).symm⟩
  rw [List.append_assoc, List.singleton_append] at h
  obtain ⟨ht, hs⟩ := sfx_mid t _ us' l h
  have h' := h
  rw [hs] at h'
  obtain ⟨d1, d2⟩ := units_drop h' ht
  have hw := dw_pos ht
  have hw2 := dw_len ht
  have hd := decodeLast_unit h' ht
  rw [sfx_cons ht] at hs
  injection hs with _ hs2
  have e : t.drop (dw t) = l.drop (l.length - t.length + dw t) := by
    conv => lhs; rw [d2]
    rw [List.drop_drop, ← d2]
  rw [e] at hs2
  have hq := sfx_inj hp (by omega) hs2
  have hq2 : p - dw t = l.length - t.length := by omega
  refine ⟨us', t, rfl, ht, by omega, by rw [hq2]; exact d2.symm, by rw [hq2, ← d2]; exact h', ?_, hq2.symm, by rw [hq2, ← d2, sfx_cons ht, e, hs2]⟩
  unfold befU
  rw [if_neg (by omega), Int.toNat_natCast, hq, hd]
end Go.Proofs.YtbkimhbpcmbflaaDoor.C
set_option linter.unusedVariables false
set_option linter.unusedSimpArgs false
namespace Go.Proofs.YtbkimhbpcmbflaaDoor.C
open Go Go.RowKit Go.Shelf Go.Proofs.YtbkimhbpcmbflaaDoor.M Go.Proofs.YtbkimhbpcmbflaaDoor.Z
attribute [local go_sem] Oper.semAt_some
theorem backfn_any (s : ByteArray) (W : World) : Calls Tryd.prog 59 #[.string s] W fun e w' => e = .returned (.func (.func 100) #[] #[.pointer (some ⟨W.heap.size, 0, none⟩)]) ∧ w' = W.alloc (.cells #[.string s] 9) := by
  go_enter Tryd.func59, Tryd.ntmps59
  go_wp2
  go_ret
  exact ⟨rfl, rfl⟩
set_option maxRecDepth 100000 in
set_option maxHeartbeats 2000000 in
theorem back_seq (b : Nat) (s : ByteArray) (hs : s.size ≤ 140737488351232) : SeqZ Tryd.prog 100 #[.pointer (some ⟨b, 0, none⟩)] (encA s) (sfx (bl s)).reverse (RdB b s) (RbB b) := by
  intro l J Jx W Z hrd hl hrb hz hJ hJx hY h0
  refine (callsIn_wide (n := 9)).1 ?_
  refine callsIn_of_wp Tryd.func100 rfl trivial ?_
  simp only [Tryd.ntmps100, List.size_toArray, List.length_cons, List.length_nil, Nat.reduceAdd, Nat.reduceSub, Array.replicate_succ, Array.replicate_zero, List.push_toArray, List.append_toArray, List.nil_append, List.cons_append]
  obtain ⟨hcell, htab⟩ := hrd
  have hbl := bl_len s
  have hKb : ∀ A ZZ, Step (fun k => k = l) Z ZZ W A → A.cell? ⟨b, 0, none⟩ = some (.string s) := fun A ZZ h =>
    h.keeps.cell hcell (fun z => z.elim (hrb b (.inl rfl)).2.1 (hrb b (.inl rfl)).2.2)
  have hKt : ∀ A ZZ, Step (fun k => k = l) Z ZZ W A → Tabs A := fun A ZZ h =>
    htab.keeps h.keeps (fun k t z => z.elim (hrb k (.inr t)).2.1 (hrb k (.inr t)).2.2)
  have HKb := Lib.hid hKb
  have HKt := Lib.hid hKt
  have Hbl := Lib.hid hbl
  clear hrb htab hKb hKt
  gi_wp2_with fail
  gi_loopw [3] (fun i wr => ∃ (p : Nat) (us pre : List (List UInt8)) (ZZ : Nat → Prop), i = .int .i64 p ∧ p ≤ s.size ∧ Hid (sfx (bl s) = us ++ sfx ((bl s).drop p)) ∧ Hid (pre = (sfx ((bl s).drop p)).reverse) ∧ Step (fun k => k = l) Z ZZ W wr ∧ J pre wr ZZ) (fun i _ => (intOf i).toNat)
  case atStart =>
    exact ⟨s.size, sfx (bl s), [], Z, rfl, Nat.le_refl _, by rw [List.drop_eq_nil_of_le (by omega), sfx_nil, List.append_nil]; simp [Hid], by rw [List.drop_eq_nil_of_le (by omega), sfx_nil]; simp [Hid], Step.none hz, h0⟩
  case round =>
    obtain ⟨p, us, pre, ZZ, rfl, hps, hus, hpre, hst, hj⟩ := hrel
    by_cases h0 : 0 < p
    · obtain ⟨us', t, hu, ht, hw, hd, hs2, hbf, hl2, hsx⟩ := back_unit hus.out h0 (by rw [hbl]; exact hps)
      rw [hbl] at hl2
      have h0I : (0 : Int) < p := by omega
      have hpx : pre ++ [t] = (sfx ((bl s).drop (p - dw t))).reverse := by rw [hpre.out, hsx, List.reverse_cons]
      have hfull : (pre ++ [t]) <+: (sfx (bl s)).reverse := ⟨us'.reverse, by rw [hs2, List.reverse_append, hpx]⟩
      have hq : ((p : Int) - ((dw t : Nat) : Int)) = ((p - dw t : Nat) : Int) := by omega
      have hwr : wrap64 ((p : Int) - ((dw t : Nat) : Int)) = ((p - dw t : Nat) : Int) := by rw [w64 (by omega) (by omega)]; exact hq
      have hwpos := dw_pos ht
      have hmeas : p - dw t < p := by omega
      have hple : p - dw t ≤ s.size := by omega
      have cB := fun W (h : Tabs W) => callsIn_wide (n := 8).2 (beforefn_any s p W h hs)
      rw [hbf] at cB
      obtain ⟨q, hqq⟩ : ∃ q, p - dw t = q := ⟨_, rfl⟩
      rw [hqq] at hs2 hl2 hpx hq hwr hmeas hple
      have hcw := HKb.out _ _ hst
      have Hs2 := Lib.hid hs2
      have Hpx := Lib.hid hpx
      have Hwr := Lib.hid hwr
      have Hmeas := Lib.hid hmeas
      clear hs2 hpx hwr hmeas hq hsx hd hu hbf hqq hw hwpos
      gi_wp2_with fail
      refine ⟨trivial, (cB _ (HKt.out _ _ hst)).mono ?_⟩
      clear cB
      rintro e w2 ⟨rfl, hb⟩
      have hk := Keeps.of_below0 hb
      have st2 := Step.fresh hst hk (fun _ h => h.elim)
      have hj2 := hJ _ _ _ none' _ hj hk (fun _ h => h.elim)
      obtain ⟨fn, tmps, assign, body, hy, hR⟩ := hY (9 - 1) pre t w2 ZZ hj2 st2.lt st2.keeps.size hfull
      dsimp only [encA] at hy hR
      rw [hl2] at hy
      have hwr := Hwr.out
      clear hj hst hcw hk hb hus hpre hl2
      gi_wp2_with fail
      refine hR.mono ?_
      clear hR hy hY
      rintro e W3 ⟨Z2, hs3, (⟨rfl, hj3⟩ | ⟨rfl, hjx3⟩)⟩
      · gi_wp2_with fail
        try rw [hwr]
        go_roundw
        case rel => exact ⟨q, us', pre ++ [t], Z2, by first | rfl | rw [hwr], hple, Hs2, Hpx, st2.trans hs3, hj3⟩
        case measure =>
          have := Hmeas.out
          simp [intOf]
          try rw [hwr]
          omega
      · gi_wp2_with fail
        refine bodyPost_ret (results_none rfl _ _ _) rfl ?_
        exact ⟨⟨_, rfl⟩, Z2, st2.trans hs3, .inr ⟨pre ++ [t], hfull, hjx3⟩⟩
    · have hz0 : p = 0 := by omega
      subst hz0
      have hpe : pre = (sfx (bl s)).reverse := by rw [hpre.out, List.drop_zero]
      have Hpe := Lib.hid hpe
      clear hpe hbl hus hpre
      gi_wp2
      go_end0
      exact ⟨⟨_, rfl⟩, ZZ, hst, .inl (by rw [← Hpe.out]; exact hj)⟩
end Go.Proofs.YtbkimhbpcmbflaaDoor.C
set_option linter.unusedVariables false
set_option linter.unusedSimpArgs false
namespace Go.Proofs.YtbkimhbpcmbflaaDoor.C
open Go Go.RowKit Go.Shelf Go.Proofs.YtbkimhbpcmbflaaDoor.M Go.Proofs.YtbkimhbpcmbflaaDoor.Z
attribute [local go_sem] Oper.semAt_some
theorem m_undef (f : Bool → Option Bool) (g : (x : Option Value) → Option Bool) : yielded.match_1 (motive := fun _ => Option Bool) (some undef) f g = g (some undef) := rfl
attribute [local go_sem] m_undef
/-- the five boxes of a walk: places, runes, n, what is returned, k -/
structure F5 (w W : World) (a b n r k : Value) : Prop where
  st : Keeps none' w W
  z : W.heap.size = w.heap.size + 5
  c0 : W.cell? ⟨w.heap.size, 0, none⟩ = some a
  c1 : W.cell? ⟨w.heap.size + 1, 0, none⟩ = some b
  c2 : W.cell? ⟨w.heap.size + 1 + 1, 0, none⟩ = some n
  c3 : W.cell? ⟨w.heap.size + 1 + 1 + 1, 0, none⟩ = some r
  c4 : W.cell? ⟨w.heap.size + 1 + 1 + 1 + 1, 0, none⟩ = some k
  f3 : W.frozen? ⟨w.heap.size + 1 + 1 + 1, 0, none⟩ = false
  f4 : W.frozen? ⟨w.heap.size + 1 + 1 + 1 + 1, 0, none⟩ = false
theorem five_boxes (w : World) (a b n r k : Value) (ta tb tn tr tk : TypeId) : F5 w (((((w.alloc (.cells #[a] ta)).alloc (.cells #[b] tb)).alloc (.cells #[n] tn)).alloc (.cells #[r] tr)).alloc (.cells #[k] tk)) a b n r k := by
  have q0 := cell_new_l w a ta
  have q1 := cell_new_l (w.alloc (.cells #[a] ta)) b tb
  have q2 := cell_new_l ((w.alloc (.cells #[a] ta)).alloc (.cells #[b] tb)) n tn
  have q3 := cell_new_l (((w.alloc (.cells #[a] ta)).alloc (.cells #[b] tb)).alloc (.cells #[n] tn)) r tr
  have q4 := cell_new_l ((((w.alloc (.cells #[a] ta)).alloc (.cells #[b] tb)).alloc (.cells #[n] tn)).alloc (.cells #[r] tr)) k tk
  simp only [World.size_alloc] at q1 q2 q3 q4
  have nn : ∀ {A B C : World}, Keeps none' A B → Keeps none' B C → Keeps none' A C := fun h k => h.trans k (fun _ _ h => h)
  exact ⟨nn (nn (nn (nn (Keeps.alloc _ _ _) (Keeps.alloc _ _ _)) (Keeps.alloc _ _ _)) (Keeps.alloc _ _ _)) (Keeps.alloc _ _ _), by simp only [World.size_alloc],
    cell_alloc_l _ (cell_alloc_l _ (cell_alloc_l _ (cell_alloc_l _ q0.1))), cell_alloc_l _ (cell_alloc_l _ (cell_alloc_l _ q1.1)), cell_alloc_l _ (cell_alloc_l _ q2.1), cell_alloc_l _ q3.1, q4.1, frozen_alloc_l _ q3.1 q3.2, q4.2⟩
/-- what a walk knows between two rounds: j units are behind it -/
structure FI (w : World) (a b n : Value) (r : Bool) (j : Nat) (A : World) (ZZ : Nat → Prop) : Prop where
  c0 : A.cell? ⟨w.heap.size, 0, none⟩ = some a
  c1 : A.cell? ⟨w.heap.size + 1, 0, none⟩ = some b
  c2 : A.cell? ⟨w.heap.size + 1 + 1, 0, none⟩ = some n
  c3 : A.cell? ⟨w.heap.size + 1 + 1 + 1, 0, none⟩ = some (.bool r)
  c4 : A.cell? ⟨w.heap.size + 1 + 1 + 1 + 1, 0, none⟩ = some (.int .i64 (j : Nat))
  f3 : A.frozen? ⟨w.heap.size + 1 + 1 + 1, 0, none⟩ = false
  f4 : A.frozen? ⟨w.heap.size + 1 + 1 + 1 + 1, 0, none⟩ = false
  zz : ∀ k, ZZ k ↔ k = w.heap.size + 1 + 1 + 1 ∨ k = w.heap.size + 1 + 1 + 1 + 1
  st : Keeps none' w A
  big : w.heap.size + 6 ≤ A.heap.size
theorem FI.keeps {w A B : World} {a b n : Value} {r : Bool} {j : Nat} {ZZ Y : Nat → Prop} (h : FI w a b n r j A ZZ) (hk : Keeps Y A B) (hy : ∀ k, Y k → w.heap.size + 6 ≤ k) : FI w a b n r j B ZZ :=
  have n0 : ∀ k, k < w.heap.size + 6 → ¬ Y k := fun k hk z => by have := hy k z; omega
  have g := h.big
  ⟨hk.cell h.c0 (n0 _ (by show w.heap.size < _; omega)), hk.cell h.c1 (n0 _ (by show w.heap.size + 1 < _; omega)), hk.cell h.c2 (n0 _ (by show w.heap.size + 1 + 1 < _; omega)), hk.cell h.c3 (n0 _ (by show w.heap.size + 1 + 1 + 1 < _; omega)), hk.cell h.c4 (n0 _ (by show w.heap.size + 1 + 1 + 1 + 1 < _; omega)),
    (frozen_keeps hk (by show w.heap.size + 1 + 1 + 1 < _; omega) (n0 _ (by show w.heap.size + 1 + 1 + 1 < _; omega))).trans h.f3, (frozen_keeps hk (by show w.heap.size + 1 + 1 + 1 + 1 < _; omega) (n0 _ (by show w.heap.size + 1 + 1 + 1 + 1 < _; omega))).trans h.f4, h.zz,
    h.st.trans hk (fun i hi y => by have := hy i y; omega), Nat.le_trans h.big hk.size⟩
theorem FI.lt {w A : World} {a b n : Value} {r : Bool} {j : Nat} {ZZ : Nat → Prop} (h : FI w a b n r j A ZZ) : ∀ k, ZZ k → k < A.heap.size := fun k z => by
  have := h.big
  have := (h.zz k).1 z
  omega
theorem FI.stepk {w A : World} {a b n : Value} {r : Bool} {j : Nat} {ZZ : Nat → Prop} (h : FI w a b n r j A ZZ) :
    FI w a b n r (j + 1) (A.setCell ⟨w.heap.size + 1 + 1 + 1 + 1, 0, none⟩ (.int .i64 ((j : Int) + 1))) ZZ ∧ Step none' ZZ ZZ A (A.setCell ⟨w.heap.size + 1 + 1 + 1 + 1, 0, none⟩ (.int .i64 ((j : Int) + 1))) := by
  have hk : Keeps (fun k => k = w.heap.size + 1 + 1 + 1 + 1) A (A.setCell ⟨w.heap.size + 1 + 1 + 1 + 1, 0, none⟩ (.int .i64 ((j : Int) + 1))) := Keeps.setCell _ _ _ rfl
  refine ⟨⟨hk.cell h.c0 (by show ¬ w.heap.size = _; omega), hk.cell h.c1 (by show ¬ w.heap.size + 1 = _; omega), hk.cell h.c2 (by show ¬ w.heap.size + 1 + 1 = _; omega), hk.cell h.c3 (by show ¬ w.heap.size + 1 + 1 + 1 = _; omega), ?_, by rw [World.frozen?_setCell]; exact h.f3, by rw [World.frozen?_setCell]; exact h.f4, h.zz,
    h.st.trans hk (fun i hi y => by omega), Nat.le_trans h.big hk.size⟩, Step.same (hk.mono (fun k _ y => .inl ((h.zz k).2 (.inr y)))) h.lt⟩
  rw [World.cell?_setCell_same' _ _ _ (by rw [h.c4]; rfl), Int.natCast_add]
  rfl
theorem FI.stept {w A : World} {a b n : Value} {r : Bool} {j : Nat} {ZZ : Nat → Prop} (h : FI w a b n r j A ZZ) :
    FI w a b n true j (A.setCell ⟨w.heap.size + 1 + 1 + 1, 0, none⟩ (.bool true)) ZZ ∧ Step none' ZZ ZZ A (A.setCell ⟨w.heap.size + 1 + 1 + 1, 0, none⟩ (.bool true)) := by
  have hk : Keeps (fun k => k = w.heap.size + 1 + 1 + 1) A (A.setCell ⟨w.heap.size + 1 + 1 + 1, 0, none⟩ (.bool true)) := Keeps.setCell _ _ _ rfl
  refine ⟨⟨hk.cell h.c0 (by show ¬ w.heap.size = _; omega), hk.cell h.c1 (by show ¬ w.heap.size + 1 = _; omega), hk.cell h.c2 (by show ¬ w.heap.size + 1 + 1 = _; omega), ?_, hk.cell h.c4 (by show ¬ w.heap.size + 1 + 1 + 1 + 1 = _; omega), by rw [World.frozen?_setCell]; exact h.f3, by rw [World.frozen?_setCell]; exact h.f4, h.zz,
    h.st.trans hk (fun i hi y => by omega), Nat.le_trans h.big hk.size⟩, Step.same (hk.mono (fun k _ y => .inl ((h.zz k).2 (.inl y)))) h.lt⟩
  rw [World.cell?_setCell_same' _ _ _ (by rw [h.c3]; rfl)]
theorem pre_at {α : Type} {pre l : List α} {x : α} (h : (pre ++ [x]) <+: l) : l[pre.length]? = some x := by
  obtain ⟨t, rfl⟩ := h
  simp
/-- marks of loops over functions are taken, one behind the other -/
def mkE (D : Nat) : Deferred := { target := .collected D, args := #[] }
theorem leaves_marks {F : Fence} {n : Nat} {P : Program} {fn : Func} {tmps : Array Value} {R : Ending → World → Prop} : ∀ (Ds : List Nat) (X : World), Ds.Nodup → (∀ D ∈ Ds, X.heap[D]? = some (.deferred (some []))) →
    (∀ Y, Keeps (fun k => k ∈ Ds) X Y → LeavesInM F n P fn tmps R [] .returning Y) → LeavesInM F n P fn tmps R (Ds.map mkE) .returning X
  | [], X, _, _, h => h X (Keeps.refl _ _)
  | D :: Ds, X, hn, hd, h => by
    obtain ⟨hn1, hn2⟩ := List.nodup_cons.1 hn
    refine ⟨by simp, .inl ⟨_, _, rfl, run_takeDeferred (hd D (by simp)), ?_⟩⟩
    have hk : Keeps (fun k => k = D) X (X.putObj D (.deferred none)) := Keeps.putObj _ _ _ rfl
    refine leaves_marks Ds _ hn2 (fun E hE => hk.obj (hd E (by simp [hE])) (fun e => hn1 (by rw [← e]; exact hE))) (fun Y hY => h Y ?_)
    exact (hk.mono (Z' := fun k => k ∈ D :: Ds) (fun k _ e => by rw [e]; simp)).trans hY (fun i _ z => by simp [z])
/-- where the units begin -/
def begs (l : List UInt8) : List Int := (sfx l).map fun t => ((l.length - t.length : Nat) : Int)
set_option maxRecDepth 100000 in
set_option maxHeartbeats 2000000 in
theorem forward_any (w : World) (s : ByteArray) (hs : s.size ≤ 1048576) (m : Nat) (hm : (sfx (bl s)).length = m) (A1 A2 : Option Addr) (c1 c2 : Nat) (hR1 : Rd w w.heap.size .i64 A1 (begs (bl s))) (hR2 : Rd w w.heap.size .i32 A2 (runes (bl s))) (n : Int) :
    Calls Tryd.prog 60 #[.string s, .slice A1 m c1, .slice A2 m c2, .int .i64 n] w fun e w' => e = .returned (.bool true) ∧ Below w.heap.size w w' := by
  refine (callsIn_wide (n := 9)).1 ?_
  refine callsIn_of_wp_marks Tryd.func60 rfl trivial ?_
  simp only [Tryd.ntmps60, List.size_toArray, List.length_cons, List.length_nil, Nat.reduceAdd, Nat.reduceSub, Array.replicate_succ, Array.replicate_zero, List.push_toArray, List.append_toArray, List.nil_append, List.cons_append]
  have cA := fun W => callsIn_wide (n := 8).2 (allfn_any s W)
  gi_wp2_with fail
  have F := five_boxes w (.slice A1 m c1) (.slice A2 m c2) (.int .i64 n) (.bool false) (.int .i64 0) 64 22 3 4 3
  generalize ((((w.alloc (.cells #[.slice A1 m c1] 64)).alloc (.cells #[.slice A2 m c2] 22)).alloc (.cells #[.int .i64 n] 3)).alloc (.cells #[.bool false] 4)).alloc (.cells #[.int .i64 0] 3) = W5 at F ⊢
  refine ⟨trivial, (cA _).mono ?_⟩
  rintro e w' ⟨rfl, rfl⟩
  have q5 := cell_new_l W5 (.string s) 9
  have k6 : Keeps none' W5 (W5.alloc (.cells #[.string s] 9)) := Keeps.alloc _ _ _
  have z6 : (W5.alloc (.cells #[.string s] 9)).heap.size = w.heap.size + 6 := by rw [World.size_alloc, F.z]
  have hI0 : FI w (.slice A1 m c1) (.slice A2 m c2) (.int .i64 n) false 0 (W5.alloc (.cells #[.string s] 9)) (fun k => k = w.heap.size + 1 + 1 + 1 ∨ k = w.heap.size + 1 + 1 + 1 + 1) :=
    ⟨k6.cell F.c0 (fun h => h), k6.cell F.c1 (fun h => h), k6.cell F.c2 (fun h => h), k6.cell F.c3 (fun h => h), k6.cell F.c4 (fun h => h), (frozen_keeps k6 (World.block_lt_of_cell? W5 _ F.c3) (fun h => h)).trans F.f3, (frozen_keeps k6 (World.block_lt_of_cell? W5 _ F.c4) (fun h => h)).trans F.f4, fun k => Iff.rfl, F.st.trans k6 (fun _ _ h => h), by rw [z6]; exact Nat.le_refl _⟩
  rw [F.z] at q5 ⊢
  generalize W5.alloc (.cells #[.string s] 9) = W6 at q5 k6 z6 hI0 ⊢
  have hs5 := q5.1
  clear F k6 q5 cA
  gi_wp2_with fail
  have hp6 : w.heap.size + 5 < W6.heap.size := by omega
  have hbl := bl_len s
  have hml : m ≤ s.size := by
    have := sfx_len (bl s)
    rw [hm, hbl] at this
    exact this
  refine range_out (gf := 91) (lb := #[.pointer (some ⟨w.heap.size + 5, 0, none⟩)]) (by first | rfl | (simp [go_sem]; done)) (enters_of Tryd.func91 (by kernel_rfl) rfl) (all_seq (w.heap.size + 5) s (by omega)) (fun _ => rfl)
    (fun pre A ZZ => pre <+: sfx (bl s) ∧ FI w (.slice A1 m c1) (.slice A2 m c2) (.int .i64 n) false pre.length A ZZ)
    (fun c pre A ZZ => c = .ret ∧ FI w (.slice A1 m c1) (.slice A2 m c2) (.int .i64 n) true pre.length A ZZ)
    (fun k => k = w.heap.size + 1 + 1 + 1 ∨ k = w.heap.size + 1 + 1 + 1 + 1) ?hZ ?hRd ?hRb ?hI ?hIx ?hround ⟨⟨_, rfl⟩, hI0⟩ ?hdone ?hstop
  case hZ => exact fun k z => by omega
  case hRd => exact fun W' hk => hk.cell hs5 (fun h => h)
  case hRb =>
    rintro k rfl
    exact ⟨by omega, fun z => by omega⟩
  case hI =>
    rintro pre A B Y ZZ ⟨h1, h⟩ hk hy
    exact ⟨h1, h.keeps hk (fun k y => by have := (hy k y).2; omega)⟩
  case hIx =>
    rintro c pre A B Y ZZ ⟨h1, h⟩ hk hy
    exact ⟨h1, h.keeps hk (fun k y => by have := (hy k y).2; omega)⟩
  case hround =>
    rintro l2 pre x A ZZ hl2 hzl hrec ⟨hp, h⟩ hzz hB hpre
    have hpl := hpre.length_le
    rw [List.length_append, List.length_singleton, hm] at hpl
    obtain ⟨f, hf⟩ : ∃ f, s.size - x.length = f := ⟨_, rfl⟩
    obtain ⟨d, hd⟩ : ∃ d, dc x = d := ⟨_, rfl⟩
    obtain ⟨q, hq⟩ : ∃ q, pre.length = q := ⟨_, rfl⟩
    simp only [encA]
    rw [hf, hd]
    rw [hq] at h hpl
    gi_wp2_with fail
    refine ⟨Keeps.refl _ _, ?_⟩
    intro A3 hk2
    intros
    have hm2 := h.keeps hk2 (fun k y => by subst y; omega)
    obtain ⟨m6, st6⟩ := hm2.stepk
    obtain ⟨m7, st7⟩ := m6.stept
    have e0 := hm2.c0
    have e1 := hm2.c1
    have e2 := hm2.c2
    have e3 := hm2.c3
    have e3z := hm2.f3
    have e4 := hm2.c4
    have e4z := hm2.f4
    have g0 := m6.c0
    have g2 := m6.c2
    have g3 := m6.c3
    have g3z := m6.f3
    have g4 := m6.c4
    have hat := pre_at hpre
    rw [hq] at hat
    have p1 : (begs (bl s))[q]? = some (f : Int) := by
      unfold begs
      rw [List.getElem?_map, hat, hbl, ← hf]
      rfl
    have p2 : (runes (bl s))[q]? = some (d : Int) := by
      unfold runes
      rw [List.getElem?_map, hat, ← hd]
      rfl
    have hlen : (pre ++ [x]).length = q + 1 := by rw [List.length_append, hq]; rfl
    obtain ⟨x1, hx1, hc1⟩ : ∃ x1 : Addr, A1 = some x1 ∧ A3.cell? (x1.add q) = some (.int .i64 (f : Int)) := by
      rcases hR1 with h | ⟨x1, h1, _, h2⟩
      · rw [h] at p1; simp at p1
      · exact ⟨x1, h1, hm2.st.cell (h2 q _ p1) (fun h => h)⟩
    obtain ⟨x2, hx2, hc2⟩ : ∃ x2 : Addr, A2 = some x2 ∧ A3.cell? (x2.add q) = some (.int .i32 (d : Int)) := by
      rcases hR2 with h | ⟨x1, h1, _, h2⟩
      · rw [h] at p2; simp at p2
      · exact ⟨x1, h1, hm2.st.cell (h2 q _ p2) (fun h => h)⟩
    subst hx1
    subst hx2
    have hwv : Value.int .i64 (wrap64 ((q : Int) + 1)) = Value.int .i64 ((q : Int) + 1) := by rw [w64 (by omega) (by omega)]
    have b1 : (q : Int) < (m : Int) := by omega
    have b2 : decide ((m : Int) ≤ (q : Int)) = false := by simp; omega
    have t1 : ((f : Int) != (f : Int)) = false := by simp
    have t2 : ((d : Int) != (d : Int)) = false := by simp
    by_cases hn : (q : Int) + 1 = n
    · have hnb : (((q : Int) + 1) == n) = true := by simp [hn]
      have hfin : ∃ Z', Step none' ZZ Z' A3 ((A3.setCell ⟨w.heap.size + 1 + 1 + 1 + 1, 0, none⟩ (.int .i64 ((q : Int) + 1))).setCell ⟨w.heap.size + 1 + 1 + 1, 0, none⟩ (.bool true)) ∧ (Code.ret = Code.ret ∧ FI w (.slice (some x1) m c1) (.slice (some x2) m c2) (.int .i64 n) true (pre ++ [x]).length ((A3.setCell ⟨w.heap.size + 1 + 1 + 1 + 1, 0, none⟩ (.int .i64 ((q : Int) + 1))).setCell ⟨w.heap.size + 1 + 1 + 1, 0, none⟩ (.bool true)) Z') :=
        ⟨_, st6.trans st7, rfl, by rw [hlen]; exact m7⟩
      have Hfin := Lib.hid hfin
      clear hfin m6 st6 m7 st7 hlen hn hpl hpre hp h hm2 hk2 hrec hzz hat p1 p2 hR1 hR2 hI0 hf hd hq hm hbl
      gi_wp2
      obtain ⟨Z', y1, _, y2⟩ := Hfin.out
      exact ⟨Z', y1, rfl, y2⟩
    · have hnb : (((q : Int) + 1) == n) = false := by simp [hn]
      have hfin : ∃ Z', Step none' ZZ Z' A3 (A3.setCell ⟨w.heap.size + 1 + 1 + 1 + 1, 0, none⟩ (.int .i64 ((q : Int) + 1))) ∧ ((pre ++ [x]) <+: sfx (bl s) ∧ FI w (.slice (some x1) m c1) (.slice (some x2) m c2) (.int .i64 n) false (pre ++ [x]).length (A3.setCell ⟨w.heap.size + 1 + 1 + 1 + 1, 0, none⟩ (.int .i64 ((q : Int) + 1))) Z') :=
        ⟨_, st6, hpre, by rw [hlen]; exact m6⟩
      have Hfin := Lib.hid hfin
      clear hfin m6 st6 m7 st7 hlen hn hpl hpre hp h hm2 hk2 hrec hzz hat p1 p2 hR1 hR2 hI0 hf hd hq hm hbl
      gi_wp2
      exact Hfin.out
  case hdone =>
    rintro D W' Z' hD hzD hst ⟨_, h⟩ hd
    rw [hm] at h
    have e0 := h.c0
    have e3 := h.c3
    have e3z := h.f3
    have e4 := h.c4
    have hmm : ((m : Int) == (m : Int)) = true := by simp
    have kX : Keeps (fun k => k = w.heap.size + 1 + 1 + 1) W' (W'.setCell ⟨w.heap.size + 1 + 1 + 1, 0, none⟩ (.bool true)) := Keeps.setCell _ _ _ rfl
    have cX : (W'.setCell ⟨w.heap.size + 1 + 1 + 1, 0, none⟩ (.bool true)).cell? ⟨w.heap.size + 1 + 1 + 1, 0, none⟩ = some (.bool true) := World.cell?_setCell_same' _ _ _ (by rw [h.c3]; rfl)
    have bX : Below w.heap.size w (W'.setCell ⟨w.heap.size + 1 + 1 + 1, 0, none⟩ (.bool true)) := (h.st.below (Nat.le_refl _) (fun _ h => h.elim)).trans (kX.below h.st.size (fun k z => by omega))
    have dX : (W'.setCell ⟨w.heap.size + 1 + 1 + 1, 0, none⟩ (.bool true)).heap[D]? = some (.deferred (some [])) := kX.obj hd (fun z => by omega)
    clear hI0 hst h kX hd hm hml hbl hR1 hR2
    gi_wp2_with fail
    generalize W'.setCell ⟨w.heap.size + 1 + 1 + 1, 0, none⟩ (.bool true) = X at cX bX dX ⊢
    refine leaves_marks [D] X (by simp) (by simpa using dX) (fun Y hY => ?_)
    have cY := hY.cell cX (fun z => by simp at z; omega)
    have bY := bX.trans (hY.below bX.size (fun k z => by simp at z; omega))
    refine ⟨.bool true, ?_, rfl, bY⟩
    simp only [results, Tryd.f60]
    go_simp
  case hstop =>
    rintro D c pre W' Z' hD hzD hst hpre ⟨rfl, h⟩ hd
    have c3 := h.c3
    have b3 := h.st.below (Nat.le_refl _) (fun _ h => h.elim)
    clear hI0 hst h hm hml hbl hR1 hR2
    gi_wp2_with fail
    refine leaves_marks [D] W' (by simp) (by simpa using hd) (fun Y hY => ?_)
    have cY := hY.cell c3 (fun z => by simp at z; omega)
    have bY := b3.trans (hY.below b3.size (fun k z => by simp at z; omega))
    refine ⟨.bool true, ?_, rfl, bY⟩
    simp only [results, Tryd.f60]
    go_simp
end Go.Proofs.YtbkimhbpcmbflaaDoor.C
set_option linter.unusedVariables false
set_option linter.unusedSimpArgs false
namespace Go.Proofs.YtbkimhbpcmbflaaDoor.C
open Go Go.RowKit Go.Shelf Go.Proofs.YtbkimhbpcmbflaaDoor.M Go.Proofs.YtbkimhbpcmbflaaDoor.Z
attribute [local go_sem] Oper.semAt_some
attribute [local go_sem] m_undef
theorem FI.stepd {w A : World} {a b n : Value} {r : Bool} {j : Nat} {ZZ : Nat → Prop} (h : FI w a b n r j A ZZ) (i : Nat) (v : Value) (hv : v = .int .i64 (i : Nat)) :
    FI w a b n r i (A.setCell ⟨w.heap.size + 1 + 1 + 1 + 1, 0, none⟩ v) ZZ ∧ Step none' ZZ ZZ A (A.setCell ⟨w.heap.size + 1 + 1 + 1 + 1, 0, none⟩ v) := by
  subst hv
  have hk : Keeps (fun k => k = w.heap.size + 1 + 1 + 1 + 1) A (A.setCell ⟨w.heap.size + 1 + 1 + 1 + 1, 0, none⟩ (.int .i64 (i : Nat))) := Keeps.setCell _ _ _ rfl
  refine ⟨⟨hk.cell h.c0 (by show ¬ w.heap.size = _; omega), hk.cell h.c1 (by show ¬ w.heap.size + 1 = _; omega), hk.cell h.c2 (by show ¬ w.heap.size + 1 + 1 = _; omega), hk.cell h.c3 (by show ¬ w.heap.size + 1 + 1 + 1 = _; omega), ?_, by rw [World.frozen?_setCell]; exact h.f3, by rw [World.frozen?_setCell]; exact h.f4, h.zz,
    h.st.trans hk (fun i hi y => by omega), Nat.le_trans h.big hk.size⟩, Step.same (hk.mono (fun k _ y => .inl ((h.zz k).2 (.inr y)))) h.lt⟩
  rw [World.cell?_setCell_same' _ _ _ (by rw [h.c4]; rfl)]
set_option maxRecDepth 100000 in
set_option maxHeartbeats 2000000 in
theorem backward_any (w : World) (s : ByteArray) (hs : s.size ≤ 1048576) (m : Nat) (hm : (sfx (bl s)).length = m) (A1 A2 : Option Addr) (c1 c2 : Nat) (hR1 : Rd w w.heap.size .i64 A1 (begs (bl s))) (hR2 : Rd w w.heap.size .i32 A2 (runes (bl s))) (hT : Tabs w) (n : Int) :
    Calls Tryd.prog 61 #[.string s, .slice A1 m c1, .slice A2 m c2, .int .i64 n] w fun e w' => e = .returned (.bool true) ∧ Below w.heap.size w w' := by
  refine (callsIn_wide (n := 9)).1 ?_
  refine callsIn_of_wp_marks Tryd.func61 rfl trivial ?_
  simp only [Tryd.ntmps61, List.size_toArray, List.length_cons, List.length_nil, Nat.reduceAdd, Nat.reduceSub, Array.replicate_succ, Array.replicate_zero, List.push_toArray, List.append_toArray, List.nil_append, List.cons_append]
  have cA := fun W => callsIn_wide (n := 8).2 (backfn_any s W)
  gi_wp2_with fail
  have F := five_boxes w (.slice A1 m c1) (.slice A2 m c2) (.int .i64 n) (.bool false) (.int .i64 m) 64 22 3 4 3
  generalize ((((w.alloc (.cells #[.slice A1 m c1] 64)).alloc (.cells #[.slice A2 m c2] 22)).alloc (.cells #[.int .i64 n] 3)).alloc (.cells #[.bool false] 4)).alloc (.cells #[.int .i64 m] 3) = W5 at F ⊢
  refine ⟨trivial, (cA _).mono ?_⟩
  rintro e w' ⟨rfl, rfl⟩
  have q5 := cell_new_l W5 (.string s) 9
  have k6 : Keeps none' W5 (W5.alloc (.cells #[.string s] 9)) := Keeps.alloc _ _ _
  have z6 : (W5.alloc (.cells #[.string s] 9)).heap.size = w.heap.size + 6 := by rw [World.size_alloc, F.z]
  have hI0 : FI w (.slice A1 m c1) (.slice A2 m c2) (.int .i64 n) false m (W5.alloc (.cells #[.string s] 9)) (fun k => k = w.heap.size + 1 + 1 + 1 ∨ k = w.heap.size + 1 + 1 + 1 + 1) :=
    ⟨k6.cell F.c0 (fun h => h), k6.cell F.c1 (fun h => h), k6.cell F.c2 (fun h => h), k6.cell F.c3 (fun h => h), k6.cell F.c4 (fun h => h), (frozen_keeps k6 (World.block_lt_of_cell? W5 _ F.c3) (fun h => h)).trans F.f3, (frozen_keeps k6 (World.block_lt_of_cell? W5 _ F.c4) (fun h => h)).trans F.f4, fun k => Iff.rfl, F.st.trans k6 (fun _ _ h => h), by rw [z6]; exact Nat.le_refl _⟩
  rw [F.z] at q5 ⊢
  generalize W5.alloc (.cells #[.string s] 9) = W6 at q5 k6 z6 hI0 ⊢
  have hs5 := q5.1
  clear F k6 q5 cA
  gi_wp2_with fail
  have hp6 : w.heap.size + 5 < W6.heap.size := by omega
  have hT6 : Tabs W6 := hT.keeps hI0.st (fun _ _ h => h)
  have hTlt : ∀ k, tabB k → k < w.heap.size := by
    rintro k (rfl | rfl)
    · exact cell_blk (hT.1 0 (by decide))
    · exact cell_blk (hT.2 0 (by decide)).1
  have hbl := bl_len s
  have hml : m ≤ s.size := by
    have := sfx_len (bl s)
    rw [hm, hbl] at this
    exact this
  refine range_out (gf := 100) (lb := #[.pointer (some ⟨w.heap.size + 5, 0, none⟩)]) (by first | rfl | (simp [go_sem]; done)) (enters_of Tryd.func100 (by kernel_rfl) rfl) (back_seq (w.heap.size + 5) s (by omega)) (fun _ => rfl)
    (fun pre A ZZ => pre <+: (sfx (bl s)).reverse ∧ FI w (.slice A1 m c1) (.slice A2 m c2) (.int .i64 n) false (m - pre.length) A ZZ)
    (fun c pre A ZZ => c = .ret ∧ FI w (.slice A1 m c1) (.slice A2 m c2) (.int .i64 n) true (m - pre.length) A ZZ)
    (fun k => k = w.heap.size + 1 + 1 + 1 ∨ k = w.heap.size + 1 + 1 + 1 + 1) ?hZ ?hRd ?hRb ?hI ?hIx ?hround ⟨⟨_, rfl⟩, hI0⟩ ?hdone ?hstop
  case hZ => exact fun k z => by omega
  case hRd => exact fun W' hk => ⟨hk.cell hs5 (fun h => h), hT6.keeps hk (fun _ _ h => h)⟩
  case hRb =>
    rintro k (rfl | tk)
    · exact ⟨by omega, fun z => by omega⟩
    · have := hTlt k tk
      exact ⟨by omega, fun z => by omega⟩
  case hI =>
    rintro pre A B Y ZZ ⟨h1, h⟩ hk hy
    exact ⟨h1, h.keeps hk (fun k y => by have := (hy k y).2; omega)⟩
  case hIx =>
    rintro c pre A B Y ZZ ⟨h1, h⟩ hk hy
    exact ⟨h1, h.keeps hk (fun k y => by have := (hy k y).2; omega)⟩
  case hround =>
    rintro l2 pre x A ZZ hl2 hzl hrec ⟨hp, h⟩ hzz hB hpre
    have hpl := hpre.length_le
    rw [List.length_append, List.length_singleton, List.length_reverse, hm] at hpl
    obtain ⟨f, hf⟩ : ∃ f, s.size - x.length = f := ⟨_, rfl⟩
    obtain ⟨d, hd⟩ : ∃ d, dc x = d := ⟨_, rfl⟩
    obtain ⟨q, hq⟩ : ∃ q, pre.length = q := ⟨_, rfl⟩
    simp only [encA]
    rw [hf, hd]
    rw [hq] at h hpl
    gi_wp2_with fail
    refine ⟨Keeps.refl _ _, ?_⟩
    intro A3 hk2
    intros
    have hm2 := h.keeps hk2 (fun k y => by subst y; omega)
    obtain ⟨u, hu⟩ : ∃ u, m - q = u + 1 := ⟨m - q - 1, by omega⟩
    rw [hu] at hm2
    obtain ⟨m6, st6⟩ := hm2.stepd u (.int .i64 (u : Nat)) rfl
    obtain ⟨m7, st7⟩ := m6.stept
    have e0 := hm2.c0
    have e1 := hm2.c1
    have e2 := hm2.c2
    have e3 := hm2.c3
    have e3z := hm2.f3
    have e4 := hm2.c4
    have e4z := hm2.f4
    have g0 := m6.c0
    have g2 := m6.c2
    have g3 := m6.c3
    have g3z := m6.f3
    have g4 := m6.c4
    have hat := pre_at hpre
    rw [hq, List.getElem?_reverse (by rw [hm]; omega), hm, show m - 1 - q = u from by omega] at hat
    have p1 : (begs (bl s))[u]? = some (f : Int) := by
      unfold begs
      rw [List.getElem?_map, hat, hbl, ← hf]
      rfl
    have p2 : (runes (bl s))[u]? = some (d : Int) := by
      unfold runes
      rw [List.getElem?_map, hat, ← hd]
      rfl
    have hlen : (pre ++ [x]).length = q + 1 := by rw [List.length_append, hq]; rfl
    obtain ⟨x1, hx1, hc1⟩ : ∃ x1 : Addr, A1 = some x1 ∧ A3.cell? (x1.add u) = some (.int .i64 (f : Int)) := by
      rcases hR1 with h | ⟨x1, h1, _, h2⟩
      · rw [h] at p1; simp at p1
      · exact ⟨x1, h1, hm2.st.cell (h2 u _ p1) (fun h => h)⟩
    obtain ⟨x2, hx2, hc2⟩ : ∃ x2 : Addr, A2 = some x2 ∧ A3.cell? (x2.add u) = some (.int .i32 (d : Int)) := by
      rcases hR2 with h | ⟨x1, h1, _, h2⟩
      · rw [h] at p2; simp at p2
      · exact ⟨x1, h1, hm2.st.cell (h2 u _ p2) (fun h => h)⟩
    subst hx1
    subst hx2
    have hwv : Value.int .i64 (wrap64 (((u + 1 : Nat) : Int) - 1)) = Value.int .i64 (u : Nat) := by rw [w64 (by omega) (by omega)]; congr 1; omega
    have hwm : Value.int .i64 (wrap64 ((m : Int) - (u : Int))) = Value.int .i64 ((q : Int) + 1) := by rw [w64 (by omega) (by omega)]; congr 1; omega
    have b0 : (((u + 1 : Nat) : Int) == 0) = false := by simp; omega
    have b3 : (u : Int) < (m : Int) := by omega
    have b1 : (q : Int) < (m : Int) := by omega
    have b2 : decide ((m : Int) ≤ (q : Int)) = false := by simp; omega
    have t1 : ((f : Int) != (f : Int)) = false := by simp
    have t2 : ((d : Int) != (d : Int)) = false := by simp
    by_cases hn : (q : Int) + 1 = n
    · have hnb : (((q : Int) + 1) == n) = true := by simp [hn]
      have hfin : ∃ Z', Step none' ZZ Z' A3 ((A3.setCell ⟨w.heap.size + 1 + 1 + 1 + 1, 0, none⟩ (.int .i64 (u : Nat))).setCell ⟨w.heap.size + 1 + 1 + 1, 0, none⟩ (.bool true)) ∧ (Code.ret = Code.ret ∧ FI w (.slice (some x1) m c1) (.slice (some x2) m c2) (.int .i64 n) true (m - (pre ++ [x]).length) ((A3.setCell ⟨w.heap.size + 1 + 1 + 1 + 1, 0, none⟩ (.int .i64 (u : Nat))).setCell ⟨w.heap.size + 1 + 1 + 1, 0, none⟩ (.bool true)) Z') :=
        ⟨_, st6.trans st7, rfl, by rw [hlen, show m - (q + 1) = u from by omega]; exact m7⟩
      have Hfin := Lib.hid hfin
      clear hfin m6 st6 m7 st7 hlen hn hpl hpre hp h hm2 hk2 hrec hzz hat p1 p2 hR1 hR2 hI0 hf hd hq hm hbl
      gi_wp2
      obtain ⟨Z', y1, _, y2⟩ := Hfin.out
      exact ⟨Z', y1, rfl, y2⟩
    · have hnb : (((q : Int) + 1) == n) = false := by simp [hn]
      have hfin : ∃ Z', Step none' ZZ Z' A3 (A3.setCell ⟨w.heap.size + 1 + 1 + 1 + 1, 0, none⟩ (.int .i64 (u : Nat))) ∧ ((pre ++ [x]) <+: (sfx (bl s)).reverse ∧ FI w (.slice (some x1) m c1) (.slice (some x2) m c2) (.int .i64 n) false (m - (pre ++ [x]).length) (A3.setCell ⟨w.heap.size + 1 + 1 + 1 + 1, 0, none⟩ (.int .i64 (u : Nat))) Z') :=
        ⟨_, st6, hpre, by rw [hlen, show m - (q + 1) = u from by omega]; exact m6⟩
      have Hfin := Lib.hid hfin
      clear hfin m6 st6 m7 st7 hlen hn hpl hpre hp h hm2 hk2 hrec hzz hat p1 p2 hR1 hR2 hI0 hf hd hq hm hbl
      gi_wp2
      exact Hfin.out
  case hdone =>
    rintro D W' Z' hD hzD hst ⟨_, h⟩ hd
    rw [List.length_reverse, hm, Nat.sub_self] at h
    have e0 := h.c0
    have e3 := h.c3
    have e3z := h.f3
    have e4 := h.c4
    have hmm : ((m : Int) == (m : Int)) = true := by simp
    have kX : Keeps (fun k => k = w.heap.size + 1 + 1 + 1) W' (W'.setCell ⟨w.heap.size + 1 + 1 + 1, 0, none⟩ (.bool true)) := Keeps.setCell _ _ _ rfl
    have cX : (W'.setCell ⟨w.heap.size + 1 + 1 + 1, 0, none⟩ (.bool true)).cell? ⟨w.heap.size + 1 + 1 + 1, 0, none⟩ = some (.bool true) := World.cell?_setCell_same' _ _ _ (by rw [h.c3]; rfl)
    have bX : Below w.heap.size w (W'.setCell ⟨w.heap.size + 1 + 1 + 1, 0, none⟩ (.bool true)) := (h.st.below (Nat.le_refl _) (fun _ h => h.elim)).trans (kX.below h.st.size (fun k z => by omega))
    have dX : (W'.setCell ⟨w.heap.size + 1 + 1 + 1, 0, none⟩ (.bool true)).heap[D]? = some (.deferred (some [])) := kX.obj hd (fun z => by omega)
    clear hI0 hst h kX hd hm hml hbl hR1 hR2
    gi_wp2_with fail
    generalize W'.setCell ⟨w.heap.size + 1 + 1 + 1, 0, none⟩ (.bool true) = X at cX bX dX ⊢
    refine leaves_marks [D] X (by simp) (by simpa using dX) (fun Y hY => ?_)
    have cY := hY.cell cX (fun z => by simp at z; omega)
    have bY := bX.trans (hY.below bX.size (fun k z => by simp at z; omega))
    refine ⟨.bool true, ?_, rfl, bY⟩
    simp only [results, Tryd.f61]
    go_simp
  case hstop =>
    rintro D c pre W' Z' hD hzD hst hpre ⟨rfl, h⟩ hd
    have c3 := h.c3
    have b3 := h.st.below (Nat.le_refl _) (fun _ h => h.elim)
    clear hI0 hst h hm hml hbl hR1 hR2
    gi_wp2_with fail
    refine leaves_marks [D] W' (by simp) (by simpa using hd) (fun Y hY => ?_)
    have cY := hY.cell c3 (fun z => by simp at z; omega)
    have bY := b3.trans (hY.below b3.size (fun k z => by simp at z; omega))
    refine ⟨.bool true, ?_, rfl, bY⟩
    simp only [results, Tryd.f61]
    go_simp
end Go.Proofs.YtbkimhbpcmbflaaDoor.C
set_option linter.unusedVariables false
set_option linter.unusedSimpArgs false
namespace Go.Proofs.YtbkimhbpcmbflaaDoor.C
open Go Go.RowKit Go.Shelf Go.Proofs.YtbkimhbpcmbflaaDoor.M Go.Proofs.YtbkimhbpcmbflaaDoor.PAll Go.Proofs.YtbkimhbpcmbflaaDoor.Z Go.Proofs.YtbkimhbpcmbflaaDoorW.PrintWords
attribute [local go_sem] Oper.semAt_some
attribute [local go_sem] m_undef
def loopIn : Code → Option Code
  | .loop c => some c
  | .seq a b => match loopIn a with
    | some c => some c
    | none => loopIn b
  | .block _ c => loopIn c
  | .scope c => loopIn c
  | .cond _ a b => match loopIn a with
    | some c => some c
    | none => loopIn b
  | _ => none
def firstReg : Code → Option Nat
  | .region i _ _ => some i
  | .seq a _ => firstReg a
  | .block _ c => firstReg c
  | .loop c => firstReg c
  | .scope c => firstReg c
  | _ => none
/-- what stands from region n's statement on -/
def sufAt (n : Nat) : Code → Option Code
  | .region i o d => if i == n then some (.region i o d) else none
  | .seq a b => if firstReg a == some n then some (.seq a b) else match sufAt n a with
    | some c => some c
    | none => sufAt n b
  | .cond _ a b => match sufAt n a with
    | some c => some c
    | none => sufAt n b
  | .block _ c => sufAt n c
  | .loop c => sufAt n c
  | .rangeFunc _ _ _ c => sufAt n c
  | .scope c => sufAt n c
  | _ => none
noncomputable def walksBody : Code := (Tryd.f16.body.bind loopIn).getD .skip
noncomputable def walks29 : Code := (Tryd.f16.body.bind (sufAt 29)).getD .skip
noncomputable def walks41 : Code := (Tryd.f16.body.bind (sufAt 41)).getD .skip
/-- the frame at a turn's head -/
def uFr (w : World) (s : ByteArray) (Bp Br Bo Bb T : Nat) (g : Nat → Value) : Array Value := #[.string s, g 1, g 2, .pointer (some ⟨w.heap.size, 0, none⟩), .pointer (some ⟨w.heap.size + 1, 0, none⟩), .pointer (some ⟨Bp, 0, none⟩), .pointer (some ⟨Br, 0, none⟩), .pointer (some ⟨Bo, 0, none⟩), .pointer (some ⟨Bb, 0, none⟩), .pointer (some ⟨T, 0, none⟩), g 10, g 11, g 12, g 13, g 14, g 15, g 16, g 17, g 18, g 19, g 20, g 21, g 22, g 23, g 24, g 25, g 26, g 27, g 28, g 29, g 30, g 31, g 32, g 33, g 34, g 35, g 36, g 37, g 38, g 39, g 40, g 41, g 42, g 43, g 44, g 45, g 46, g 47, g 48, g 49, g 50, g 51, g 52, g 53, g 54, g 55, g 56, g 57, g 58, g 59, g 60, g 61, g 62, g 63, g 64, g 65, g 66, g 67, g 68, g 69, g 70, g 71, g 72, g 73, g 74, g 75, g 76, g 77, g 78, g 79, g 80, g 81, g 82, g 83, g 84, g 85, g 86, g 87, g 88, g 89, g 90, g 91, g 92, g 93, g 94, g 95, g 96, g 97, g 98, g 99, g 100, g 101, g 102, g 103, g 104, g 105, g 106, g 107, g 108, g 109, g 110, g 111, g 112, g 113, g 114, g 115, g 116, g 117, g 118, g 119, g 120, g 121, g 122, g 123, g 124, g 125, g 126, g 127, g 128, g 129, g 130, g 131, g 132, g 133, g 134, g 135, g 136, g 137, g 138, g 139, g 140, g 141, g 142, g 143, g 144, g 145, g 146, g 147, g 148, g 149, g 150, g 151, g 152, g 153, g 154, g 155, g 156, g 157]
/-- the frame in a turn's midst -/
def vFr (w : World) (s : ByteArray) (Bp Br Bo Bb T K : Nat) (g : Nat → Value) : Array Value := #[.string s, g 1, g 2, .pointer (some ⟨w.heap.size, 0, none⟩), .pointer (some ⟨w.heap.size + 1, 0, none⟩), .pointer (some ⟨Bp, 0, none⟩), .pointer (some ⟨Br, 0, none⟩), .pointer (some ⟨Bo, 0, none⟩), .pointer (some ⟨Bb, 0, none⟩), .pointer (some ⟨T, 0, none⟩), .pointer (some ⟨K, 0, none⟩), g 11, g 12, g 13, g 14, g 15, g 16, g 17, g 18, g 19, g 20, g 21, g 22, g 23, g 24, g 25, g 26, g 27, g 28, g 29, g 30, g 31, g 32, g 33, g 34, g 35, g 36, g 37, g 38, g 39, g 40, g 41, g 42, g 43, g 44, g 45, g 46, g 47, g 48, g 49, g 50, g 51, g 52, g 53, g 54, g 55, g 56, g 57, g 58, g 59, g 60, g 61, g 62, g 63, g 64, g 65, g 66, g 67, g 68, g 69, g 70, g 71, g 72, g 73, g 74, g 75, g 76, g 77, g 78, g 79, g 80, g 81, g 82, g 83, g 84, g 85, g 86, g 87, g 88, g 89, g 90, g 91, g 92, g 93, g 94, g 95, g 96, g 97, g 98, g 99, g 100, g 101, g 102, g 103, g 104, g 105, g 106, g 107, g 108, g 109, g 110, g 111, g 112, g 113, g 114, g 115, g 116, g 117, g 118, g 119, g 120, g 121, g 122, g 123, g 124, g 125, g 126, g 127, g 128, g 129, g 130, g 131, g 132, g 133, g 134, g 135, g 136, g 137, g 138, g 139, g 140, g 141, g 142, g 143, g 144, g 145, g 146, g 147, g 148, g 149, g 150, g 151, g 152, g 153, g 154, g 155, g 156, g 157]
/-- the world at the loop's beginning -/
structure US (w W8 : World) (s : ByteArray) (Bp Br Bo Bb Bs Bt : Nat) (N m : Nat) (Ap Ar : Option Addr) (cp cr : Nat) : Prop where
  tabs : Tabs W8
  bel : Below w.heap.size w W8
  nn : W8.cell? ⟨w.heap.size, 0, none⟩ = some (.int .i64 (N : Nat))
  r : W8.cell? ⟨w.heap.size + 1, 0, none⟩ = some (.bool false)
  rz : W8.frozen? ⟨w.heap.size + 1, 0, none⟩ = false
  pp : W8.cell? ⟨Bp, 0, none⟩ = some (.slice Ap m cp)
  rr : W8.cell? ⟨Br, 0, none⟩ = some (.slice Ar m cr)
  on : W8.cell? ⟨Bo, 0, none⟩ = some (.func (.func 91) #[] #[.pointer (some ⟨Bs, 0, none⟩)])
  bk : W8.cell? ⟨Bb, 0, none⟩ = some (.func (.func 100) #[] #[.pointer (some ⟨Bt, 0, none⟩)])
  s1 : W8.cell? ⟨Bs, 0, none⟩ = some (.string s)
  s2 : W8.cell? ⟨Bt, 0, none⟩ = some (.string s)
  cP : ∀ (q : Nat) (f : Int), (begs (bl s))[q]? = some f → ∃ x, Ap = some x ∧ W8.cell? (x.add q) = some (.int .i64 f)
  cR : ∀ (q : Nat) (f : Int), (runes (bl s))[q]? = some f → ∃ x, Ar = some x ∧ W8.cell? (x.add q) = some (.int .i32 f)
  mm : (sfx (bl s)).length = m
  le : N ≤ m
/-- what is known at a turn's head -/
structure UW (W8 : World) (τ T : Nat) (Ds : List Nat) (W : World) : Prop where
  st : Keeps none' W8 W
  le : τ ≤ 3
  tc : W.cell? ⟨T, 0, none⟩ = some (.int .i64 (τ : Nat))
  tz : W.frozen? ⟨T, 0, none⟩ = false
  nd : Ds.Nodup
  ds : ∀ D ∈ Ds, W.heap[D]? = some (.deferred (some []))
  dl : ∀ D ∈ Ds, W8.heap.size ≤ D
theorem keeps_nn {A B C : World} (h : Keeps none' A B) (k : Keeps none' B C) : Keeps none' A C := h.trans k (fun _ _ h => h)
/-- a mark more -/
theorem UW.more {W8 W W' : World} {τ T : Nat} {Ds : List Nat} (h : UW W8 τ T Ds W) (hk : Keeps none' W W') {D : Nat} (hd : W'.heap[D]? = some (.deferred (some []))) (hD : W.heap.size ≤ D) : UW W8 τ T (D :: Ds) W' := by
  have hT : T < W.heap.size := World.block_lt_of_cell? W _ h.tc
  refine ⟨keeps_nn h.st hk, h.le, hk.cell h.tc (fun h => h), (frozen_keeps hk hT (fun h => h)).trans h.tz, List.nodup_cons.2 ⟨fun hm => ?_, h.nd⟩, fun E hE => ?_, fun E hE => ?_⟩
  · have := lt_of_obj (h.ds D hm); omega
  · rcases List.mem_cons.1 hE with rfl | hE
    · exact hd
    · exact hk.obj (h.ds E hE) (fun h => h)
  · rcases List.mem_cons.1 hE with rfl | hE
    · have := h.st.size; omega
    · exact h.dl E hE
/-- what a counter's box holds -/
structure KI (W : World) (q : Nat) (A : World) (ZZ : Nat → Prop) : Prop where
  en : A.cell? ⟨W.heap.size, 0, none⟩ = some (.int .i64 (q : Nat))
  ez : A.frozen? ⟨W.heap.size, 0, none⟩ = false
  zz : ∀ k, ZZ k ↔ k = W.heap.size
  st : Keeps none' W A
  big : W.heap.size + 1 ≤ A.heap.size
theorem KI.keeps {W A A' : World} {q : Nat} {ZZ Y : Nat → Prop} (h : KI W q A ZZ) (hk : Keeps Y A A') (hy : ∀ k, Y k → W.heap.size + 1 ≤ k) : KI W q A' ZZ := by
  have hn : ∀ k, k < W.heap.size + 1 → ¬ Y k := fun k hk' y => by have := hy k y; omega
  exact ⟨hk.cell h.en (hn _ (by show W.heap.size < _; omega)), (frozen_keeps hk (World.block_lt_of_cell? A _ h.en) (hn _ (by show W.heap.size < _; omega))).trans h.ez, h.zz,
    h.st.trans hk (fun i hi y => hn i (by omega) y), Nat.le_trans h.big hk.size⟩
theorem KI.lt {W A : World} {q : Nat} {ZZ : Nat → Prop} (h : KI W q A ZZ) : ∀ k, ZZ k → k < A.heap.size := fun k z => by
  have := h.big
  have := (h.zz k).1 z
  omega
theorem KI.store {W A : World} {q : Nat} {ZZ : Nat → Prop} (h : KI W q A ZZ) (q' : Nat) (z : Value) (hz : z = .int .i64 (q' : Nat)) :
    KI W q' (A.setCell ⟨W.heap.size, 0, none⟩ z) ZZ ∧ Step none' ZZ ZZ A (A.setCell ⟨W.heap.size, 0, none⟩ z) := by
  subst hz
  have hb := h.big
  have hk : Keeps (fun k => k = W.heap.size) A (A.setCell ⟨W.heap.size, 0, none⟩ (.int .i64 (q' : Nat))) := Keeps.setCell _ _ _ rfl
  exact ⟨⟨World.cell?_setCell_same' _ _ _ (by rw [h.en]; rfl), by rw [World.frozen?_setCell]; exact h.ez, h.zz,
    h.st.trans hk (fun i hi y => by omega), Nat.le_trans h.big hk.size⟩, Step.same (hk.mono (fun k _ y => .inl ((h.zz k).2 y))) h.lt⟩
theorem KI.new (W : World) (q : Nat) (t : TypeId) : KI W q (W.alloc (.cells #[.int .i64 (q : Nat)] t)) (fun k => k = W.heap.size) := by
  have q1 := cell_new_l W (.int .i64 (q : Nat)) t
  exact ⟨q1.1, q1.2, fun k => Iff.rfl, Keeps.alloc _ _ _, by simp⟩
theorem tab_lt {W : World} (h : Tabs W) : ∀ k, tabB k → k < W.heap.size := fun k tk => by
  rcases tk with rfl | rfl
  · exact cell_blk (h.1 0 (by decide))
  · exact cell_blk (h.2 0 (by decide)).1
theorem keeps_below {A B : World} (h : Keeps none' A B) : Below A.heap.size A B := h.below (Nat.le_refl _) (fun _ z => z.elim)
set_option maxRecDepth 100000 in
set_option maxHeartbeats 4000000 in
theorem walks_second {w W8 W : World} {s : ByteArray} {Bp Br Bo Bb Bs Bt N m τ T K κ cp cr : Nat} {Ap Ar : Option Addr} {Ds : List Nat} {tm : Array Value} {Q : Exit → Act → World → Prop} (hs : s.size ≤ 1048576) (hS : US w W8 s Bp Br Bo Bb Bs Bt N m Ap Ar cp cr) (hW : UW W8 τ T Ds W) (htm : tm = vFr w s Bp Br Bo Bb T K (fun i => tm.getD i undef))
    (hK : W.cell? ⟨K, 0, none⟩ = some (.int .i64 (κ : Nat))) (hκ : τ ≠ 0 → κ = m)
    (hnext : ∀ a' W' D, a'.tmps = uFr w s Bp Br Bo Bb T (fun i => a'.tmps.getD i undef) → a'.defers = (D :: Ds).map mkE → Keeps none' W W' → UW W8 τ T (D :: Ds) W' → Q .normal a' W') :
    walks29.wpIn Fence.wide 9 Tryd.prog Q { tmps := tm, defers := Ds.map mkE } W := by
  generalize (fun i => tm.getD i undef) = g at htm
  subst htm
  unfold vFr
  conv => arg 4; whnf
  have hbl := bl_len s
  have ht := hW.tc
  have hpp := hW.st.cell hS.pp (fun h => h)
  have hbk := hW.st.cell hS.bk (fun h => h)
  have hml : m ≤ s.size := by
    have := sfx_len (bl s)
    rw [hS.mm, hbl] at this
    exact this
  have hbk1 := fun o => cell_alloc_l o hbk
  gi_wp2_with fail
  clear hbk1
  obtain ⟨W1, hW1⟩ : ∃ W1, W.alloc (.cells #[.int .i64 (m : Nat)] 3) = W1 := ⟨_, rfl⟩
  have hI0 := KI.new W m 3
  rw [hW1] at hI0 ⊢
  have k1 := hI0.st
  have k81 := keeps_nn hW.st k1
  have hTb : T < W.heap.size := World.block_lt_of_cell? W _ ht
  have hBs : Bt < W8.heap.size := World.block_lt_of_cell? W8 _ hS.s2
  have hTlt := tab_lt hS.tabs
  have h8W := hW.st.size
  have z1 : W1.heap.size = W.heap.size + 1 := by rw [← hW1]; simp
  clear hW1
  refine range_out (gf := 100) (lb := #[.pointer (some ⟨Bt, 0, none⟩)]) (by first | rfl | (simp [go_sem]; done)) (enters_of Tryd.func100 (by kernel_rfl) rfl) (back_seq Bt s (by omega)) (fun _ => rfl)
    (fun pre A ZZ => pre <+: (sfx (bl s)).reverse ∧ KI W (m - pre.length) A ZZ)
    (fun c pre A ZZ => c = .exit 8 ∧ τ = 0 ∧ KI W (m - pre.length) A ZZ)
    (fun k => k = W.heap.size) ?hZ ?hRd ?hRb ?hI ?hIx ?hround ⟨⟨_, rfl⟩, hI0⟩ ?hdone ?hstop
  case hZ => exact hI0.lt
  case hRd => exact fun W' hk => ⟨(keeps_nn k81 hk).cell hS.s2 (fun h => h), hS.tabs.keeps (keeps_nn k81 hk) (fun _ _ h => h)⟩
  case hRb =>
    rintro k (rfl | tk)
    · exact ⟨by omega, fun z => by omega⟩
    · have := hTlt k tk
      exact ⟨by omega, fun z => by omega⟩
  case hI =>
    rintro pre A B Y ZZ ⟨h1, h⟩ hk hy
    exact ⟨h1, h.keeps hk (fun k y => by have := (hy k y).2; omega)⟩
  case hIx =>
    rintro c pre A B Y ZZ ⟨h1, h2, h⟩ hk hy
    exact ⟨h1, h2, h.keeps hk (fun k y => by have := (hy k y).2; omega)⟩
  case hround =>
    rintro l2 pre x A ZZ hl2 hzl hrec ⟨hp, h⟩ hzz hB hpre
    have hpl := hpre.length_le
    rw [List.length_append, List.length_singleton, List.length_reverse, hS.mm] at hpl
    obtain ⟨f, hf⟩ : ∃ f, s.size - x.length = f := ⟨_, rfl⟩
    obtain ⟨d, hd⟩ : ∃ d, dc x = d := ⟨_, rfl⟩
    obtain ⟨q, hq⟩ : ∃ q, pre.length = q := ⟨_, rfl⟩
    simp only [encA]
    rw [hf, hd]
    rw [hq] at h hpl
    gi_wp2_with fail
    refine ⟨Keeps.refl _ _, ?_⟩
    intro A3 hk2
    intros
    have hm2 := h.keeps hk2 (fun k y => by subst y; omega)
    have k83 := keeps_nn hW.st hm2.st
    obtain ⟨u, hu⟩ : ∃ u, m - q = u + 1 := ⟨m - q - 1, by omega⟩
    rw [hu] at hm2
    obtain ⟨m6, st6⟩ := hm2.store u (.int .i64 (u : Nat)) rfl
    have hat := pre_at hpre
    rw [hq, List.getElem?_reverse (by rw [hS.mm]; omega), hS.mm, show m - 1 - q = u from by omega] at hat
    have p1 : (begs (bl s))[u]? = some (f : Int) := by
      unfold begs
      rw [List.getElem?_map, hat, hbl, ← hf]
      rfl
    have p2 : (runes (bl s))[u]? = some (d : Int) := by
      unfold runes
      rw [List.getElem?_map, hat, ← hd]
      rfl
    have hlen : (pre ++ [x]).length = q + 1 := by rw [List.length_append, hq]; rfl
    obtain ⟨x1, hx1, hc1⟩ := hS.cP u _ p1
    obtain ⟨x2, hx2, hc2⟩ := hS.cR u _ p2
    have hc1 := k83.cell hc1 (fun h => h)
    have hc2 := k83.cell hc2 (fun h => h)
    have e0 := k83.cell hS.pp (fun h => h)
    have e1 := k83.cell hS.rr (fun h => h)
    rw [hx1] at e0
    rw [hx2] at e1
    have e2 := hm2.en
    have e2z := hm2.ez
    have e4 := hm2.st.cell ht (fun h => h)
    have g0 := m6.st.cell (hW.st.cell hS.pp (fun h => h)) (fun h => h)
    have g2 := m6.st.cell (hW.st.cell hS.nn (fun h => h)) (fun h => h)
    have g4 := m6.st.cell ht (fun h => h)
    have g5 := m6.en
    have hwv : Value.int .i64 (wrap64 (((u + 1 : Nat) : Int) - 1)) = Value.int .i64 (u : Nat) := by rw [w64 (by omega) (by omega)]; congr 1; omega
    have hwm : Value.int .i64 (wrap64 ((m : Int) - (u : Int))) = Value.int .i64 ((q : Int) + 1) := by rw [w64 (by omega) (by omega)]; congr 1; omega
    have b0 : (((u + 1 : Nat) : Int) == 0) = false := by simp; omega
    have b3 : (u : Int) < (m : Int) := by omega
    have b1 : (q : Int) < (m : Int) := by omega
    have b2 : decide ((m : Int) ≤ (q : Int)) = false := by simp; omega
    have t1 : ((f : Int) != (f : Int)) = false := by simp
    have t2 : ((d : Int) != (d : Int)) = false := by simp
    have hfin : ∃ Z', Step none' ZZ Z' A3 (A3.setCell ⟨W.heap.size, 0, none⟩ (.int .i64 (u : Nat))) ∧ ((pre ++ [x]) <+: (sfx (bl s)).reverse ∧ KI W (m - (pre ++ [x]).length) (A3.setCell ⟨W.heap.size, 0, none⟩ (.int .i64 (u : Nat))) Z') :=
      ⟨_, st6, hpre, by rw [hlen, show m - (q + 1) = u from by omega]; exact m6⟩
    have wv : wrap64 ((m : Int) - (u : Int)) = (q : Int) + 1 := by rw [w64 (by omega) (by omega)]; omega
    by_cases h1 : τ = 0
    · have tt : ((τ : Int) == 0) = true := by simp; omega
      by_cases h2 : N ≤ q + 1
      · have tn : decide ((N : Int) ≤ wrap64 ((m : Int) - (u : Int))) = true := by rw [wv]; simp; omega
        have hfin2 : ∃ Z', Step none' ZZ Z' A3 (A3.setCell ⟨W.heap.size, 0, none⟩ (.int .i64 (u : Nat))) ∧ (Code.exit 8 = Code.exit 8 ∧ τ = 0 ∧ KI W (m - (pre ++ [x]).length) (A3.setCell ⟨W.heap.size, 0, none⟩ (.int .i64 (u : Nat))) Z') :=
          ⟨_, st6, rfl, h1, by rw [hlen, show m - (q + 1) = u from by omega]; exact m6⟩
        have Hfin := Lib.hid hfin2
        have tn2 : (N : Int) ≤ (m : Int) - (u : Int) := by omega
        clear hfin hfin2 m6 st6 hlen h1 h2 hpl hpre hp h hm2 hk2 hrec hzz hat p1 p2 hf hd hq hbl hu wv k83 hκ tn hS hW hnext
        gi_wp2
        obtain ⟨Z', y1, _, y2⟩ := Hfin.out
        exact ⟨Z', y1, rfl, y2⟩
      · have Hfin := Lib.hid hfin
        have tn2 : (m : Int) - (u : Int) < (N : Int) := by omega
        clear hfin m6 st6 hlen h1 h2 hpl hpre hp h hm2 hk2 hrec hzz hat p1 p2 hf hd hq hbl hu wv k83 hκ hS hW hnext
        gi_wp2
        exact Hfin.out
    · have tt : ((τ : Int) == 0) = false := by simp; omega
      have Hfin := Lib.hid hfin
      clear hfin m6 st6 hlen h1 hpl hpre hp h hm2 hk2 hrec hzz hat p1 p2 hf hd hq hbl hu wv k83 hκ hS hW hnext
      gi_wp2
      exact Hfin.out
  case hdone =>
    rintro D W' Z' hD hzD hst ⟨_, h⟩ hd
    rw [List.length_reverse, hS.mm, Nat.sub_self] at h
    have e0 := (keeps_nn hW.st h.st).cell hS.pp (fun h => h)
    have e2 := h.en
    have e4 := h.st.cell ht (fun h => h)
    have e5 := h.st.cell hK (fun h => h)
    have HU := Lib.hid (hW.more h.st hd (by omega))
    have Hk := Lib.hid h.st
    have zz : (((0 : Nat) : Int) != 0) = false := by decide
    by_cases h1 : τ = 0
    · have tt : decide (0 < τ) = false := by simp; omega
      clear hI0 hst h hd hκ hW hS hbl h1
      gi_wp2_with fail
      exact hnext _ _ D rfl rfl Hk.out HU.out
    · have tt : 0 < τ := by omega
      rw [hκ h1] at e5
      clear hI0 hst h hd hκ hW hS hbl h1
      gi_wp2_with fail
      exact hnext _ _ D rfl rfl Hk.out HU.out
  case hstop =>
    rintro D c pre W' Z' hD hzD hst hpre ⟨rfl, h1, h⟩ hd
    have e4 := h.st.cell ht (fun h => h)
    have HU := Lib.hid (hW.more h.st hd (by omega))
    have Hk := Lib.hid h.st
    have tt : decide (0 < τ) = false := by simp; omega
    clear hI0 hst h hd hκ hW hS hbl h1
    gi_wp2_with fail
    exact hnext _ _ D rfl rfl Hk.out HU.out
end Go.Proofs.YtbkimhbpcmbflaaDoor.C
set_option linter.unusedVariables false
set_option linter.unusedSimpArgs false
namespace Go.Proofs.YtbkimhbpcmbflaaDoor.C
open Go Go.RowKit Go.Shelf Go.Proofs.YtbkimhbpcmbflaaDoor.M Go.Proofs.YtbkimhbpcmbflaaDoor.PAll Go.Proofs.YtbkimhbpcmbflaaDoor.Z Go.Proofs.YtbkimhbpcmbflaaDoorW.PrintWords
attribute [local go_sem] Oper.semAt_some
attribute [local go_sem] m_undef
/-- the loop over a function in whose body region n stands -/
def rangeOf (n : Nat) : Code → Option Code
  | .seq a b => match rangeOf n a with
    | some c => some c
    | none => rangeOf n b
  | .cond _ a b => match rangeOf n a with
    | some c => some c
    | none => rangeOf n b
  | .block _ c => rangeOf n c
  | .loop c => rangeOf n c
  | .scope c => rangeOf n c
  | .rangeFunc x y z c => match rangeOf n c with
    | some d => some d
    | none => match sufAt n c with
      | some _ => some (.rangeFunc x y z c)
      | none => none
  | _ => none
noncomputable def range24 : Code := (Tryd.f16.body.bind (rangeOf 24)).getD .skip
noncomputable def range26 : Code := (Tryd.f16.body.bind (rangeOf 26)).getD .skip
/-- the frame at an inner walk -/
def iFr (M : Nat) (f : Value) (g : Nat → Value) : Array Value := #[g 0, g 1, g 2, g 3, g 4, g 5, g 6, g 7, g 8, g 9, g 10, g 11, g 12, .pointer (some ⟨M, 0, none⟩), g 14, g 15, g 16, g 17, g 18, g 19, g 20, g 21, g 22, g 23, g 24, g 25, g 26, g 27, g 28, g 29, g 30, g 31, g 32, g 33, g 34, g 35, g 36, g 37, g 38, g 39, g 40, g 41, g 42, g 43, g 44, g 45, g 46, g 47, g 48, g 49, g 50, g 51, g 52, g 53, g 54, g 55, g 56, g 57, g 58, g 59, g 60, g 61, g 62, g 63, g 64, g 65, g 66, g 67, g 68, g 69, g 70, g 71, g 72, g 73, g 74, g 75, g 76, g 77, g 78, g 79, g 80, g 81, g 82, g 83, g 84, g 85, g 86, g 87, g 88, g 89, g 90, g 91, g 92, g 93, g 94, g 95, f, g 97, g 98, g 99, g 100, g 101, g 102, g 103, g 104, g 105, g 106, g 107, g 108, g 109, g 110, g 111, g 112, g 113, g 114, g 115, g 116, g 117, g 118, g 119, g 120, g 121, g 122, g 123, g 124, g 125, g 126, g 127, g 128, g 129, g 130, g 131, g 132, g 133, g 134, g 135, g 136, g 137, g 138, g 139, g 140, g 141, g 142, g 143, g 144, g 145, g 146, g 147, g 148, g 149, g 150, g 151, g 152, g 153, g 154, g 155, g 156, g 157]
def jFr (M : Nat) (f : Value) (g : Nat → Value) : Array Value := #[g 0, g 1, g 2, g 3, g 4, g 5, g 6, g 7, g 8, g 9, g 10, g 11, g 12, .pointer (some ⟨M, 0, none⟩), g 14, g 15, g 16, g 17, g 18, g 19, g 20, g 21, g 22, g 23, g 24, g 25, g 26, g 27, g 28, g 29, g 30, g 31, g 32, g 33, g 34, g 35, g 36, g 37, g 38, g 39, g 40, g 41, g 42, g 43, g 44, g 45, g 46, g 47, g 48, g 49, g 50, g 51, g 52, g 53, g 54, g 55, g 56, g 57, g 58, g 59, g 60, g 61, g 62, g 63, g 64, g 65, g 66, g 67, g 68, g 69, g 70, g 71, g 72, g 73, g 74, g 75, g 76, g 77, g 78, g 79, g 80, g 81, g 82, g 83, g 84, g 85, g 86, g 87, g 88, g 89, g 90, g 91, g 92, g 93, g 94, g 95, g 96, g 97, g 98, g 99, g 100, f, g 102, g 103, g 104, g 105, g 106, g 107, g 108, g 109, g 110, g 111, g 112, g 113, g 114, g 115, g 116, g 117, g 118, g 119, g 120, g 121, g 122, g 123, g 124, g 125, g 126, g 127, g 128, g 129, g 130, g 131, g 132, g 133, g 134, g 135, g 136, g 137, g 138, g 139, g 140, g 141, g 142, g 143, g 144, g 145, g 146, g 147, g 148, g 149, g 150, g 151, g 152, g 153, g 154, g 155, g 156, g 157]
/-- what the inner counter's box holds -/
structure XI (A : World) (M q : Nat) (B : World) (ZZ : Nat → Prop) : Prop where
  en : B.cell? ⟨M, 0, none⟩ = some (.int .i64 (q : Nat))
  ez : B.frozen? ⟨M, 0, none⟩ = false
  zz : ∀ k, ZZ k ↔ k = M
  st : Keeps (fun k => k = M) A B
  lt : M < A.heap.size
theorem XI.keeps {A B B' : World} {M q : Nat} {ZZ Y : Nat → Prop} (h : XI A M q B ZZ) (hk : Keeps Y B B') (hy : ∀ k, Y k → A.heap.size ≤ k) : XI A M q B' ZZ := by
  have hl := h.lt
  have hn : ¬ Y M := fun y => by have := hy M y; omega
  exact ⟨hk.cell h.en hn, (frozen_keeps hk (World.block_lt_of_cell? B _ h.en) hn).trans h.ez, h.zz, h.st.trans hk (fun i hi y => by have := hy i y; omega), hl⟩
theorem XI.store {A B : World} {M q : Nat} {ZZ : Nat → Prop} (h : XI A M q B ZZ) (q' : Nat) (z : Value) (hz : z = .int .i64 (q' : Nat)) :
    XI A M q' (B.setCell ⟨M, 0, none⟩ z) ZZ ∧ Step none' ZZ ZZ B (B.setCell ⟨M, 0, none⟩ z) := by
  subst hz
  have hk : Keeps (fun k => k = M) B (B.setCell ⟨M, 0, none⟩ (.int .i64 (q' : Nat))) := Keeps.setCell _ _ _ rfl
  refine ⟨⟨World.cell?_setCell_same' _ _ _ (by rw [h.en]; rfl), by rw [World.frozen?_setCell]; exact h.ez, h.zz, h.st.trans hk (fun _ _ y => y), h.lt⟩, Step.same (hk.mono (fun k _ y => .inl ((h.zz k).2 y))) (fun k z => ?_)⟩
  have h1 := (h.zz k).1 z
  subst h1
  exact Nat.lt_of_lt_of_le h.lt h.st.size
set_option maxRecDepth 100000 in
set_option maxHeartbeats 4000000 in
theorem walks_up {A : World} {s : ByteArray} {l2 M Bs m : Nat} {r2 : Loop} {f : Value} {tm : Array Value} {Q : Exit → Act → World → Prop} (hl2 : A.heap[l2]? = some (.loop r2)) (hs : s.size ≤ 1048576) (hf : f = .func (.func 91) #[] #[.pointer (some ⟨Bs, 0, none⟩)]) (h1 : A.cell? ⟨Bs, 0, none⟩ = some (.string s)) (hne : Bs ≠ M)
    (htm : tm = iFr M f (fun i => tm.getD i undef)) (hm : (sfx (bl s)).length = m) (hM : A.cell? ⟨M, 0, none⟩ = some (.int .i64 (0 : Nat))) (hMz : A.frozen? ⟨M, 0, none⟩ = false)
    (hnext : ∀ A', Keeps (fun k => k = M) A A' → A'.cell? ⟨M, 0, none⟩ = some (.int .i64 (m : Nat)) → A'.frozen? ⟨M, 0, none⟩ = false → Q .normal { tmps := tm, defers := [] } A') :
    range24.wpIn (Fence.wide.inRound l2) 9 Tryd.prog Q { tmps := tm, defers := [] } A := by
  generalize (fun i => tm.getD i undef) = g at htm
  subst htm
  unfold iFr
  unfold iFr at hnext
  conv => arg 4; whnf
  have hml : m ≤ s.size := by
    have := sfx_len (bl s)
    rw [hm, bl_len] at this
    exact this
  have hBs : Bs < A.heap.size := World.block_lt_of_cell? A _ h1
  have hMl : M < A.heap.size := World.block_lt_of_cell? A _ hM
  refine range_in hl2 (gf := 91) (lb := #[.pointer (some ⟨Bs, 0, none⟩)]) (by subst hf; first | rfl | (simp [go_sem]; done)) (enters_of Tryd.func91 (by kernel_rfl) rfl) (all_seq Bs s (by omega)) (fun _ => rfl)
    (fun pre B ZZ => XI A M pre.length B ZZ) (fun c pre B ZZ => False)
    (fun k => k = M) ?hZ ?hRd ?hRb ?hI ?hIx ?hround ⟨hM, hMz, fun k => Iff.rfl, Keeps.refl _ _, hMl⟩ ?hdone ?hstop
  case hZ => rintro k rfl; exact hMl
  case hRd => exact fun W' hk => hk.cell h1 (fun h => h)
  case hRb =>
    rintro k rfl
    exact ⟨hBs, fun z => hne z⟩
  case hI =>
    rintro pre B B' Y ZZ h hk hy
    exact h.keeps hk (fun k y => (hy k y).2)
  case hIx =>
    rintro c pre B B' Y ZZ h hk hy
    exact h
  case hround =>
    rintro l3 pre x B ZZ hl3 hzl hrec h hzz hB hpre
    have hpl := hpre.length_le
    rw [List.length_append, List.length_singleton, hm] at hpl
    obtain ⟨f1, hf1⟩ : ∃ f, s.size - x.length = f := ⟨_, rfl⟩
    obtain ⟨d, hd⟩ : ∃ d, dc x = d := ⟨_, rfl⟩
    obtain ⟨q, hq⟩ : ∃ q, pre.length = q := ⟨_, rfl⟩
    simp only [encA]
    rw [hf1, hd]
    rw [hq] at h hpl
    gi_wp2_with fail
    refine ⟨Keeps.refl _ _, ?_⟩
    intro A3 hk2
    intros
    have hm2 := h.keeps hk2 (fun k y => by subst y; omega)
    obtain ⟨m6, st6⟩ := hm2.store (q + 1) (.int .i64 ((q : Int) + 1)) (by rw [Int.natCast_add]; rfl)
    have e2 := hm2.en
    have e2z := hm2.ez
    have i0 : q ≤ 1048576 := by omega
    have hlen : (pre ++ [x]).length = q + 1 := by rw [List.length_append, hq]; rfl
    have hfin : ∃ Z', Step none' ZZ Z' A3 (A3.setCell ⟨M, 0, none⟩ (.int .i64 ((q : Int) + 1))) ∧ XI A M (pre ++ [x]).length (A3.setCell ⟨M, 0, none⟩ (.int .i64 ((q : Int) + 1))) Z' := ⟨_, st6, by rw [hlen]; exact m6⟩
    have Hfin := Lib.hid hfin
    clear hfin m6 st6 hlen hpre h hm2 hk2 hrec hzz hf1 hd hq hnext
    gi_wp2
    exact Hfin.out
  case hdone =>
    rintro W' Z' hst h
    rw [hm] at h
    exact hnext W' h.st h.en h.ez
  case hstop => intros; contradiction
set_option maxRecDepth 100000 in
set_option maxHeartbeats 4000000 in
theorem walks_down {A : World} {s : ByteArray} {l2 M Bs m : Nat} {r2 : Loop} {f : Value} {tm : Array Value} {Q : Exit → Act → World → Prop} (hl2 : A.heap[l2]? = some (.loop r2)) (hs : s.size ≤ 1048576) (hf : f = .func (.func 100) #[] #[.pointer (some ⟨Bs, 0, none⟩)]) (h1 : A.cell? ⟨Bs, 0, none⟩ = some (.string s)) (hne : Bs ≠ M)
    (hT : Tabs A) (hTM : ¬ tabB M)
    (htm : tm = jFr M f (fun i => tm.getD i undef)) (hm : (sfx (bl s)).length = m) (hM : A.cell? ⟨M, 0, none⟩ = some (.int .i64 (m : Nat))) (hMz : A.frozen? ⟨M, 0, none⟩ = false)
    (hnext : ∀ A', Keeps (fun k => k = M) A A' → A'.cell? ⟨M, 0, none⟩ = some (.int .i64 (0 : Nat)) → A'.frozen? ⟨M, 0, none⟩ = false → Q .normal { tmps := tm, defers := [] } A') :
    range26.wpIn (Fence.wide.inRound l2) 9 Tryd.prog Q { tmps := tm, defers := [] } A := by
  generalize (fun i => tm.getD i undef) = g at htm
  subst htm
  unfold jFr
  unfold jFr at hnext
  conv => arg 4; whnf
  have hml : m ≤ s.size := by
    have := sfx_len (bl s)
    rw [hm, bl_len] at this
    exact this
  have hBs : Bs < A.heap.size := World.block_lt_of_cell? A _ h1
  have hMl : M < A.heap.size := World.block_lt_of_cell? A _ hM
  have hTlt := tab_lt hT
  refine range_in hl2 (gf := 100) (lb := #[.pointer (some ⟨Bs, 0, none⟩)]) (by subst hf; first | rfl | (simp [go_sem]; done)) (enters_of Tryd.func100 (by kernel_rfl) rfl) (back_seq Bs s (by omega)) (fun _ => rfl)
    (fun pre B ZZ => XI A M (m - pre.length) B ZZ) (fun c pre B ZZ => False)
    (fun k => k = M) ?hZ ?hRd ?hRb ?hI ?hIx ?hround ⟨hM, hMz, fun k => Iff.rfl, Keeps.refl _ _, hMl⟩ ?hdone ?hstop
  case hZ => rintro k rfl; exact hMl
  case hRd => exact fun W' hk => ⟨hk.cell h1 (fun h => h), hT.keeps hk (fun _ _ h => h)⟩
  case hRb =>
    rintro k (rfl | tk)
    · exact ⟨hBs, fun z => hne z⟩
    · exact ⟨hTlt k tk, fun z => by subst z; exact hTM tk⟩
  case hI =>
    rintro pre B B' Y ZZ h hk hy
    exact h.keeps hk (fun k y => (hy k y).2)
  case hIx =>
    rintro c pre B B' Y ZZ h hk hy
    exact h
  case hround =>
    rintro l3 pre x B ZZ hl3 hzl hrec h hzz hB hpre
    have hpl := hpre.length_le
    rw [List.length_append, List.length_singleton, List.length_reverse, hm] at hpl
    obtain ⟨f1, hf1⟩ : ∃ f, s.size - x.length = f := ⟨_, rfl⟩
    obtain ⟨d, hd⟩ : ∃ d, dc x = d := ⟨_, rfl⟩
    obtain ⟨q, hq⟩ : ∃ q, pre.length = q := ⟨_, rfl⟩
    simp only [encA]
    rw [hf1, hd]
    rw [hq] at h hpl
    gi_wp2_with fail
    refine ⟨Keeps.refl _ _, ?_⟩
    intro A3 hk2
    intros
    have hm2 := h.keeps hk2 (fun k y => by subst y; omega)
    obtain ⟨u, hu⟩ : ∃ u, m - q = u + 1 := ⟨m - q - 1, by omega⟩
    rw [hu] at hm2
    obtain ⟨m6, st6⟩ := hm2.store u (.int .i64 (u : Nat)) rfl
    have e2 := hm2.en
    have e2z := hm2.ez
    have i0 : u ≤ 1048576 := by omega
    have hwv : Value.int .i64 (wrap64 (((u + 1 : Nat) : Int) - 1)) = Value.int .i64 (u : Nat) := by rw [w64 (by omega) (by omega)]; congr 1; omega
    have hlen : m - (pre ++ [x]).length = u := by rw [List.length_append, hq, List.length_singleton]; omega
    have hfin : ∃ Z', Step none' ZZ Z' A3 (A3.setCell ⟨M, 0, none⟩ (.int .i64 (u : Nat))) ∧ XI A M (m - (pre ++ [x]).length) (A3.setCell ⟨M, 0, none⟩ (.int .i64 (u : Nat))) Z' := ⟨_, st6, by rw [hlen]; exact m6⟩
    have Hfin := Lib.hid hfin
    clear hfin m6 st6 hlen hpre h hm2 hk2 hrec hzz hf1 hd hq hnext hu
    gi_wp2
    exact Hfin.out
  case hdone =>
    rintro W' Z' hst h
    rw [List.length_reverse, hm, Nat.sub_self] at h
    exact hnext W' h.st h.en h.ez
  case hstop => intros; contradiction
end Go.Proofs.YtbkimhbpcmbflaaDoor.C
set_option linter.unusedVariables false
set_option linter.unusedSimpArgs false
namespace Go.Proofs.YtbkimhbpcmbflaaDoor.C
open Go Go.RowKit Go.Shelf Go.Proofs.YtbkimhbpcmbflaaDoor.M Go.Proofs.YtbkimhbpcmbflaaDoor.PAll Go.Proofs.YtbkimhbpcmbflaaDoor.Z Go.Proofs.YtbkimhbpcmbflaaDoorW.PrintWords
attribute [local go_sem] Oper.semAt_some
attribute [local go_sem] m_undef
set_option maxRecDepth 100000 in
set_option maxHeartbeats 4000000 in
theorem walks_round {w W8 W : World} {s : ByteArray} {Bp Br Bo Bb Bs Bt N m τ T cp cr : Nat} {Ap Ar : Option Addr} {Ds : List Nat} {g : Nat → Value} {Q : Exit → Act → World → Prop} (hs : s.size ≤ 1048576) (hS : US w W8 s Bp Br Bo Bb Bs Bt N m Ap Ar cp cr) (hW : UW W8 τ T Ds W) (hlt : τ < 3)
    (hnext : ∀ a' W' T' Ds', a'.tmps = uFr w s Bp Br Bo Bb T' (fun i => a'.tmps.getD i undef) → a'.defers = Ds'.map mkE → UW W8 (τ + 1) T' Ds' W' → Q .normal a' W') :
    walksBody.wpIn Fence.wide 9 Tryd.prog Q { tmps := uFr w s Bp Br Bo Bb T g, defers := Ds.map mkE } W := by
  unfold uFr
  conv => arg 4; whnf
  have hbl := bl_len s
  have ht := hW.tc
  have hltI : (τ : Int) < 3 := by omega
  have hon := hW.st.cell hS.on (fun h => h)
  have hml : m ≤ s.size := by
    have := sfx_len (bl s)
    rw [hS.mm, hbl] at this
    exact this
  have hon1 := fun o => cell_alloc_l o hon
  gi_wp2_with fail
  clear hon1
  obtain ⟨W1, hW1⟩ : ∃ W1, W.alloc (.cells #[.int .i64 0] 3) = W1 := ⟨_, rfl⟩
  have hI0 := KI.new W 0 3
  rw [show W.alloc (.cells #[.int .i64 ((0 : Nat) : Int)] 3) = W1 from hW1] at hI0
  rw [hW1]
  have k1 := hI0.st
  have k81 := keeps_nn hW.st k1
  have hTb : T < W.heap.size := World.block_lt_of_cell? W _ ht
  have hBs : Bs < W8.heap.size := World.block_lt_of_cell? W8 _ hS.s1
  have hBt : Bt < W8.heap.size := World.block_lt_of_cell? W8 _ hS.s2
  have hTlt := tab_lt hS.tabs
  have h8W := hW.st.size
  have z1 : W1.heap.size = W.heap.size + 1 := by rw [← hW1]; simp
  clear hW1
  refine range_out (gf := 91) (lb := #[.pointer (some ⟨Bs, 0, none⟩)]) (by first | rfl | (simp [go_sem]; done)) (enters_of Tryd.func91 (by kernel_rfl) rfl) (all_seq Bs s (by omega)) (fun _ => rfl)
    (fun pre A ZZ => pre <+: sfx (bl s) ∧ KI W pre.length A ZZ)
    (fun c pre A ZZ => c = .exit 2 ∧ τ = 0 ∧ KI W pre.length A ZZ)
    (fun k => k = W.heap.size) ?hZ ?hRd ?hRb ?hI ?hIx ?hround ⟨⟨_, rfl⟩, hI0⟩ ?hdone ?hstop
  case hZ => exact hI0.lt
  case hRd => exact fun W' hk => (keeps_nn k81 hk).cell hS.s1 (fun h => h)
  case hRb =>
    rintro k rfl
    exact ⟨by omega, fun z => by omega⟩
  case hI =>
    rintro pre A B Y ZZ ⟨h1, h⟩ hk hy
    exact ⟨h1, h.keeps hk (fun k y => by have := (hy k y).2; omega)⟩
  case hIx =>
    rintro c pre A B Y ZZ ⟨h1, h2, h⟩ hk hy
    exact ⟨h1, h2, h.keeps hk (fun k y => by have := (hy k y).2; omega)⟩
  case hround =>
    rintro l2 pre x A ZZ hl2 hzl hrec ⟨hp, h⟩ hzz hB hpre
    have hpl := hpre.length_le
    rw [List.length_append, List.length_singleton, hS.mm] at hpl
    obtain ⟨f, hf⟩ : ∃ f, s.size - x.length = f := ⟨_, rfl⟩
    obtain ⟨d, hd⟩ : ∃ d, dc x = d := ⟨_, rfl⟩
    obtain ⟨q, hq⟩ : ∃ q, pre.length = q := ⟨_, rfl⟩
    simp only [encA]
    rw [hf, hd]
    rw [hq] at h hpl
    gi_wp2_with fail
    refine ⟨Keeps.refl _ _, ?_⟩
    rintro A3 hk2 ⟨r3, hr3⟩
    intros
    have hm2 := h.keeps hk2 (fun k y => by subst y; omega)
    have k83 := keeps_nn hW.st hm2.st
    obtain ⟨m6, st6⟩ := hm2.store (q + 1) (.int .i64 ((q : Int) + 1)) (by rw [Int.natCast_add]; rfl)
    have hat := pre_at hpre
    rw [hq] at hat
    have p1 : (begs (bl s))[q]? = some (f : Int) := by
      unfold begs
      rw [List.getElem?_map, hat, hbl, ← hf]
      rfl
    have p2 : (runes (bl s))[q]? = some (d : Int) := by
      unfold runes
      rw [List.getElem?_map, hat, ← hd]
      rfl
    have hlen : (pre ++ [x]).length = q + 1 := by rw [List.length_append, hq]; rfl
    obtain ⟨x1, hx1, hc1⟩ := hS.cP q _ p1
    obtain ⟨x2, hx2, hc2⟩ := hS.cR q _ p2
    have hc1 := k83.cell hc1 (fun h => h)
    have hc2 := k83.cell hc2 (fun h => h)
    have e0 := k83.cell hS.pp (fun h => h)
    have e1 := k83.cell hS.rr (fun h => h)
    rw [hx1] at e0
    rw [hx2] at e1
    have e2 := hm2.en
    have e2z := hm2.ez
    have e4 := hm2.st.cell ht (fun h => h)
    have g2 := m6.st.cell (hW.st.cell hS.nn (fun h => h)) (fun h => h)
    have g4 := m6.st.cell ht (fun h => h)
    have g5 := m6.en
    have i0 : q ≤ 1048576 := by omega
    have b1 : (q : Int) < (m : Int) := by omega
    have b2 : decide ((m : Int) ≤ (q : Int)) = false := by simp; omega
    have t1 : ((f : Int) != (f : Int)) = false := by simp
    have t2 : ((d : Int) != (d : Int)) = false := by simp
    have hfin : ∃ Z', Step none' ZZ Z' A3 (A3.setCell ⟨W.heap.size, 0, none⟩ (.int .i64 ((q : Int) + 1))) ∧ ((pre ++ [x]) <+: sfx (bl s) ∧ KI W (pre ++ [x]).length (A3.setCell ⟨W.heap.size, 0, none⟩ (.int .i64 ((q : Int) + 1))) Z') :=
      ⟨_, st6, hpre, by rw [hlen]; exact m6⟩
    by_cases h1 : τ = 0
    · have tt : ((τ : Int) == 0) = true := by simp; omega
      have tt1 : ((τ : Int) == 1) = false := by simp; omega
      by_cases h2 : N ≤ q + 1
      · have hfin2 : ∃ Z', Step none' ZZ Z' A3 (A3.setCell ⟨W.heap.size, 0, none⟩ (.int .i64 ((q : Int) + 1))) ∧ (Code.exit 2 = Code.exit 2 ∧ τ = 0 ∧ KI W (pre ++ [x]).length (A3.setCell ⟨W.heap.size, 0, none⟩ (.int .i64 ((q : Int) + 1))) Z') :=
          ⟨_, st6, rfl, h1, by rw [hlen]; exact m6⟩
        have Hfin := Lib.hid hfin2
        have tn2 : (N : Int) ≤ (q : Int) + 1 := by omega
        clear hfin hfin2 m6 st6 hlen h1 h2 hpl hpre hp h hm2 hk2 hrec hzz hat p1 p2 hf hd hq hbl k83 hS hW hnext hr3
        gi_wp2
        obtain ⟨Z', y1, _, y2⟩ := Hfin.out
        exact ⟨Z', y1, rfl, y2⟩
      · have Hfin := Lib.hid hfin
        have tn2 : (q : Int) + 1 < (N : Int) := by omega
        clear hfin m6 st6 hlen h1 h2 hpl hpre hp h hm2 hk2 hrec hzz hat p1 p2 hf hd hq hbl k83 hS hW hnext hr3
        gi_wp2
        exact Hfin.out
    · have tt : ((τ : Int) == 0) = false := by simp; omega
      by_cases h3 : τ = 1 ∧ q + 1 ≤ 3
      · have tt1 : ((τ : Int) == 1) = true := by simp; omega
        have tq : (q : Int) + 1 ≤ 3 := by omega
        have hkK : Keeps (fun k => k = W.heap.size) A3 (A3.setCell ⟨W.heap.size, 0, none⟩ (.int .i64 ((q : Int) + 1))) := Keeps.setCell _ _ _ rfl
        have hne : l2 ≠ W.heap.size := fun e => hzl ((h.zz l2).2 e)
        have hr4 := hkK.obj hr3 hne
        have hs4 : (A3.setCell ⟨W.heap.size, 0, none⟩ (.int .i64 ((q : Int) + 1))).heap.size = A3.heap.size := by show (A3.heap.modify _ _).size = _; rw [Array.size_modify]
        have k84 := keeps_nn hW.st m6.st
        have o4 := k84.cell hS.on (fun h => h)
        have o5 := fun o => cell_alloc_l o o4
        have Hm6 := Lib.hid m6
        have Hst := Lib.hid st6
        have Hp := Lib.hid hpre
        have Hlen := Lib.hid hlen
        have Hr4 := Lib.hid hr4
        have Hk4 := Lib.hid k84
        clear hfin m6 st6 hlen h1 h3 hpl hpre hp h hm2 hk2 hrec hzz hat p1 p2 hf hd hq k83 hr3 hr4 hkK k84 hne
        have s4 := Hk4.out.cell hS.s1 (fun h => h)
        have t4 := Hk4.out.cell hS.s2 (fun h => h)
        have b4 := Hk4.out.cell hS.bk (fun h => h)
        have T4 : Tabs (A3.setCell ⟨W.heap.size, 0, none⟩ (.int .i64 ((q : Int) + 1))) := hS.tabs.keeps Hk4.out (fun _ _ h => h)
        have hBs4 : Bs < A3.heap.size := by rw [← hs4]; exact World.block_lt_of_cell? _ _ s4
        have hBt4 : Bt < A3.heap.size := by rw [← hs4]; exact World.block_lt_of_cell? _ _ t4
        have hTl4 := tab_lt T4
        rw [hs4] at hTl4
        have q5 := cell_new_l (A3.setCell ⟨W.heap.size, 0, none⟩ (.int .i64 ((q : Int) + 1))) (.int .i64 0) 3
        have k5 : Keeps none' _ ((A3.setCell ⟨W.heap.size, 0, none⟩ (.int .i64 ((q : Int) + 1))).alloc (.cells #[.int .i64 0] 3)) := Keeps.alloc _ _ _
        rw [hs4] at q5
        have hmm := hS.mm
        have T4h := Lib.hid T4
        have hTl4h := Lib.hid hTl4
        clear T4 hTl4 hTlt
        gi_wp2_with fail
        generalize A3.setCell ⟨W.heap.size, 0, none⟩ (.int .i64 ((q : Int) + 1)) = A4 at *
        generalize A4.alloc (.cells #[.int .i64 0] 3) = A5 at *
        refine walks_up (k5.obj Hr4.out (fun h => h)) hs rfl (k5.cell s4 (fun h => h)) (by omega) rfl hmm q5.1 q5.2 ?_
        intro A6 k6 c6 z6
        have k46 : Keeps none' A4 A6 := k5.trans k6 (fun i hi e => by omega)
        have b6 := k46.cell b4 (fun h => h)
        clear o4 o5
        gi_wp2_with fail
        refine walks_down (k46.obj Hr4.out (fun h => h)) hs rfl (k46.cell t4 (fun h => h)) (by omega) (T4h.out.keeps k46 (fun _ _ h => h)) (fun tk => by have := hTl4h.out _ tk; omega) rfl hmm c6 z6 ?_
        intro A7 k7 c7 z7
        have k47 : Keeps none' A4 A7 := k46.trans k7 (fun i hi e => by omega)
        have Hfin : Hid (∃ Z', Step none' ZZ Z' A3 A7 ∧ ((pre ++ [x]) <+: sfx (bl s) ∧ KI W (pre ++ [x]).length A7 Z')) := by
          refine Lib.hid ⟨_, Hst.out.trans (Step.same (k47.mono (fun _ _ h => h.elim)) Hm6.out.lt), Hp.out, ?_⟩
          rw [Hlen.out]
          exact Hm6.out.keeps k47 (fun _ h => h.elim)
        have zz : (((0 : Nat) : Int) != 0) = false := by decide
        clear b6 k46 k47 k6 k7 c6 z6 z7 k5 q5
        gi_wp2
        exact Hfin.out
      · have Hfin := Lib.hid hfin
        by_cases h4 : τ = 1
        · have tt1 : ((τ : Int) == 1) = true := by simp; omega
          have tq : (3 : Int) < (q : Int) + 1 := by omega
          clear hfin m6 st6 hlen h1 h3 hpl hpre hp h hm2 hk2 hrec hzz hat p1 p2 hf hd hq hbl k83 hS hW hnext hr3
          gi_wp2
          exact Hfin.out
        · have tt1 : ((τ : Int) == 1) = false := by simp; omega
          clear hfin m6 st6 hlen h1 h3 h4 hpl hpre hp h hm2 hk2 hrec hzz hat p1 p2 hf hd hq hbl k83 hS hW hnext hr3
          gi_wp2
          exact Hfin.out
  case hdone =>
    rintro D W' Z' hD hzD hst ⟨_, h⟩ hd
    rw [hS.mm] at h
    have hU := hW.more h.st hd (by omega)
    refine ‹∀ (a : Act) (w : World), Code.wpIn _ _ _ _ _ a w → _› _ _ ?_
    refine walks_second hs hS hU rfl h.en (fun _ => rfl) ?_
    rintro ⟨tm, df⟩ W2 D2 e1 e2 hk2 hU2
    dsimp only at e1 e2
    generalize (fun i => tm.getD i undef) = g1 at e1
    subst e1
    subst e2
    have htc := hU2.tc
    have kX : Keeps none' W2 (W2.alloc (.cells #[.int .i64 ((τ : Int) + 1)] 3)) := Keeps.alloc _ _ _
    have q2 := cell_new_l W2 (.int .i64 ((τ : Int) + 1)) 3
    have HU : Hid (UW W8 (τ + 1) W2.heap.size (D2 :: D :: Ds) (W2.alloc (.cells #[.int .i64 ((τ : Int) + 1)] 3))) :=
      Lib.hid ⟨keeps_nn hU2.st kX, by omega, by rw [q2.1, Int.natCast_add]; rfl, q2.2, hU2.nd, fun E hE => kX.obj (hU2.ds E hE) (fun h => h), hU2.dl⟩
    clear hI0 hst h hd hW hS hbl hU hU2 hk2 q2 kX
    unfold uFr
    gi_wp2_with fail
    exact hnext _ _ W2.heap.size (D2 :: D :: Ds) rfl rfl HU.out
  case hstop =>
    rintro D c pre W' Z' hD hzD hst hpre ⟨rfl, h1, h⟩ hd
    have hU := hW.more h.st hd (by omega)
    have hK := h.en
    refine wpIn_exit ?_
    simp only [Exit.inBlock, if_true, beq_self_eq_true]
    refine ‹∀ (a : Act) (w : World), Code.wpIn _ _ _ _ _ a w → _› _ _ ?_
    refine walks_second hs hS hU rfl h.en (fun e => absurd h1 e) ?_
    rintro ⟨tm, df⟩ W2 D2 e1 e2 hk2 hU2
    dsimp only at e1 e2
    generalize (fun i => tm.getD i undef) = g1 at e1
    subst e1
    subst e2
    have htc := hU2.tc
    have kX : Keeps none' W2 (W2.alloc (.cells #[.int .i64 ((τ : Int) + 1)] 3)) := Keeps.alloc _ _ _
    have q2 := cell_new_l W2 (.int .i64 ((τ : Int) + 1)) 3
    have HU : Hid (UW W8 (τ + 1) W2.heap.size (D2 :: D :: Ds) (W2.alloc (.cells #[.int .i64 ((τ : Int) + 1)] 3))) :=
      Lib.hid ⟨keeps_nn hU2.st kX, by omega, by rw [q2.1, Int.natCast_add]; rfl, q2.2, hU2.nd, fun E hE => kX.obj (hU2.ds E hE) (fun h => h), hU2.dl⟩
    clear hI0 hst h hd hW hS hbl hU hU2 hk2 q2 kX h1
    unfold uFr
    gi_wp2_with fail
    exact hnext _ _ W2.heap.size (D2 :: D :: Ds) rfl rfl HU.out
end Go.Proofs.YtbkimhbpcmbflaaDoor.C
set_option linter.unusedVariables false
set_option linter.unusedSimpArgs false
namespace Go.Proofs.YtbkimhbpcmbflaaDoor.C
open Go Go.RowKit Go.Shelf Go.Proofs.YtbkimhbpcmbflaaDoor.M Go.Proofs.YtbkimhbpcmbflaaDoor.PAll Go.Proofs.YtbkimhbpcmbflaaDoor.Z Go.Proofs.YtbkimhbpcmbflaaDoorW.PrintWords
attribute [local go_sem] Oper.semAt_some
attribute [local go_sem] m_undef
theorem pick_small (a : Int) (m : Nat) (hm : m ≤ 1000000000) : ∃ r : Nat, r ≤ m ∧ glossarykit_Pick.f a ((m : Int) + 1) = some (r : Int) := by
  have h1 := Int.tmod_lt_of_pos a (b := (m : Int) + 1) (by omega)
  have h2 := Int.lt_tmod_of_pos a (b := (m : Int) + 1) (by omega)
  unfold glossarykit_Pick.f
  rw [if_neg (by omega), if_neg (by omega)]
  by_cases h : Int.tmod a ((m : Int) + 1) < 0
  · rw [if_pos h, w64 (by omega) (by omega)]
    exact ⟨(Int.tmod a ((m : Int) + 1) + ((m : Int) + 1)).toNat, by omega, by rw [Int.toNat_of_nonneg (by omega)]⟩
  · rw [if_neg h]
    exact ⟨(Int.tmod a ((m : Int) + 1)).toNat, by omega, by rw [Int.toNat_of_nonneg (by omega)]⟩
theorem places_any (s : ByteArray) (hs : s.size ≤ 1048576) (m : Nat) (hm : (sfx (bl s)).length = m) (W : World) : Calls Tryd.prog 57 #[.string s] W fun e w' => ∃ A c, e = .returned (.slice A m c) ∧ m ≤ c ∧ Rd w' w'.heap.size .i64 A (begs (bl s)) ∧ (∀ x, A = some x → W.heap.size ≤ x.block ∨ m = 0) ∧ Below W.heap.size W w' :=
  (glossaryref01_Places.calls _ s _ W (places_ref s hs _ (Nat.le_refl _))).mono fun e w' ⟨v, he, hr, hb⟩ => by
    have hl : (starts (bl s)).length = m := by rw [← hm]; simp [starts]
    obtain ⟨A, c, rfl, hc, hrd⟩ := R_rd hr
    refine ⟨A, c, by rw [← hl]; exact he, by rw [← hl]; exact hc, hrd, fun x hx => ?_, hb⟩
    rcases Nat.eq_zero_or_pos m with h0 | hp
    · exact .inr h0
    · obtain ⟨g, cap, hg, hgb, _⟩ := Kd.R_form hr (by rw [hl]; exact hp)
      injection hg with hg _ _
      rw [hx] at hg
      injection hg with hg
      left; rw [hg]; exact hgb
theorem runes01_any (s : ByteArray) (hs : s.size ≤ 1048576) (m : Nat) (hm : (sfx (bl s)).length = m) (W : World) : Calls Tryd.prog 58 #[.string s] W fun e w' => ∃ A c, e = .returned (.slice A m c) ∧ m ≤ c ∧ Rd w' w'.heap.size .i32 A (runes (bl s)) ∧ (∀ x, A = some x → W.heap.size ≤ x.block ∨ m = 0) ∧ Below W.heap.size W w' :=
  (glossaryref01_Runes.calls _ s _ W (runes01_ref s hs _ (Nat.le_refl _))).mono fun e w' ⟨v, he, hr, hb⟩ => by
    have hl : (runes (bl s)).length = m := by rw [← hm]; simp [runes]
    obtain ⟨A, c, rfl, hc, hrd⟩ := R_rd hr
    refine ⟨A, c, by rw [← hl]; exact he, by rw [← hl]; exact hc, hrd, fun x hx => ?_, hb⟩
    rcases Nat.eq_zero_or_pos m with h0 | hp
    · exact .inr h0
    · obtain ⟨g, cap, hg, hgb, _⟩ := Kd.R_form hr (by rw [hl]; exact hp)
      injection hg with hg _ _
      rw [hx] at hg
      injection hg with hg
      left; rw [hg]; exact hgb
theorem eql_fn (p : Value) (f : Nat) (W : World) : (binOp BinOp.eql 51 (.func (.func f) #[] #[p]) .nilFunc).run Tryd.prog W = .ok (.bool false) W := by kernel_rfl
set_option maxRecDepth 100000 in
set_option maxHeartbeats 4000000 in
theorem walks_out {w W8 W : World} {s : ByteArray} {Bp Br Bo Bb T : Nat} {Ds : List Nat} {g : Nat → Value} {Q : Exit → Act → World → Prop} (hW : UW W8 3 T Ds W)
    (hexit : ∀ a', a'.tmps = uFr w s Bp Br Bo Bb T (fun i => a'.tmps.getD i undef) → a'.defers = Ds.map mkE → Q (.exit 0) a' W) :
    walksBody.wpIn Fence.wide 9 Tryd.prog Q { tmps := uFr w s Bp Br Bo Bb T g, defers := Ds.map mkE } W := by
  unfold uFr
  conv => arg 4; whnf
  have ht := hW.tc
  have htI : decide ((((3 : Nat) : Int)) < 3) = false := by decide
  clear hW
  gi_wp2_with fail
  exact hexit _ rfl rfl
set_option maxRecDepth 100000 in
set_option maxHeartbeats 4000000 in
theorem walks_end {w W8 W : World} {s : ByteArray} {Bp Br Bo Bb Bs Bt N m τ T cp cr : Nat} {Ap Ar : Option Addr} {Ds : List Nat} {g : Nat → Value} (hS : US w W8 s Bp Br Bo Bb Bs Bt N m Ap Ar cp cr) (hW : UW W8 τ T Ds W) (h8 : w.heap.size + 2 ≤ W8.heap.size) :
    walks41.wpIn Fence.wide 9 Tryd.prog (bodyPostM Fence.wide 9 Tryd.prog Tryd.f16 fun e w' => e = .returned (.bool true) ∧ Below w.heap.size w w') { tmps := uFr w s Bp Br Bo Bb T g, defers := Ds.map mkE } W := by
  unfold uFr
  conv => arg 4; whnf
  have r := hW.st.cell hS.r (fun h => h)
  have rz : W.frozen? ⟨w.heap.size + 1, 0, none⟩ = false := (frozen_keeps hW.st (World.block_lt_of_cell? W8 _ hS.r) (fun h => h)).trans hS.rz
  have kX : Keeps (fun k => k = w.heap.size + 1) W (W.setCell ⟨w.heap.size + 1, 0, none⟩ (.bool true)) := Keeps.setCell _ _ _ rfl
  have cX : (W.setCell ⟨w.heap.size + 1, 0, none⟩ (.bool true)).cell? ⟨w.heap.size + 1, 0, none⟩ = some (.bool true) := World.cell?_setCell_same' _ _ _ (by rw [r]; rfl)
  have bX : Below w.heap.size w (W.setCell ⟨w.heap.size + 1, 0, none⟩ (.bool true)) := (hS.bel.trans ((keeps_below hW.st).mono hS.bel.size)).trans (kX.below (Nat.le_trans hS.bel.size hW.st.size) (fun k z => by omega))
  have dX : ∀ D ∈ Ds, (W.setCell ⟨w.heap.size + 1, 0, none⟩ (.bool true)).heap[D]? = some (.deferred (some [])) := fun D hD => kX.obj (hW.ds D hD) (fun z => by have := hW.dl D hD; omega)
  have hdl := hW.dl
  have hnd := hW.nd
  clear hW hS kX
  gi_wp2_with fail
  generalize W.setCell ⟨w.heap.size + 1, 0, none⟩ (.bool true) = X at cX bX dX ⊢
  refine leaves_marks Ds X hnd dX (fun Y hY => ?_)
  have cY := hY.cell cX (fun z => by have := hdl _ z; simp at this; omega)
  have bY := bX.trans (hY.below bX.size (fun k z => by have := hdl k z; omega))
  refine ⟨.bool true, ?_, rfl, bY⟩
  simp only [results, Tryd.f16]
  go_simp
/-- how many turns there have been -/
def turnOf (a : Act) (W : World) : Nat := match a.tmps.getD 9 undef with
  | .pointer (some ad) => match W.cell? ad with
    | some (.int _ n) => n.toNat
    | _ => 0
  | _ => 0
theorem turn_eq {w W8 W : World} {s : ByteArray} {Bp Br Bo Bb τ T : Nat} {Ds : List Nat} {g : Nat → Value} {a : Act} (h : a.tmps = uFr w s Bp Br Bo Bb T g) (hW : UW W8 τ T Ds W) : turnOf a W = τ := by
  unfold turnOf
  rw [h]
  show (match W.cell? ⟨T, 0, none⟩ with | some (.int _ n) => n.toNat | _ => 0) = τ
  rw [hW.tc]
  simp
theorem walks_loop {w W8 W : World} {s : ByteArray} {Bp Br Bo Bb Bs Bt N m T cp cr : Nat} {Ap Ar : Option Addr} {a : Act} {Q : Exit → Act → World → Prop} (hs : s.size ≤ 1048576) (hS : US w W8 s Bp Br Bo Bb Bs Bt N m Ap Ar cp cr) (hW : UW W8 0 T [] W) (ha1 : a.tmps = uFr w s Bp Br Bo Bb T (fun i => a.tmps.getD i undef)) (ha2 : a.defers = [].map mkE)
    (hexit : ∀ a' W' T' Ds', a'.tmps = uFr w s Bp Br Bo Bb T' (fun i => a'.tmps.getD i undef) → a'.defers = Ds'.map mkE → UW W8 3 T' Ds' W' → Q (.exit 0) a' W') :
    (Code.loop walksBody).wpIn Fence.wide 9 Tryd.prog Q a W := by
  refine wpIn_loop (fun a W => ∃ τ T Ds, a.tmps = uFr w s Bp Br Bo Bb T (fun i => a.tmps.getD i undef) ∧ a.defers = Ds.map mkE ∧ UW W8 τ T Ds W) (fun a W => 3 - turnOf a W) ⟨0, T, [], ha1, ha2, hW⟩ ?_
  rintro ⟨tm, df⟩ W1 ⟨τ, T1, Ds, h1, h2, h3⟩
  dsimp only at h1 h2
  have ht := turn_eq (a := ⟨tm, df⟩) h1 h3
  rw [ht]
  clear ht
  generalize (fun i => tm.getD i undef) = g1 at h1
  subst h1
  subst h2
  by_cases hlt : τ < 3
  · refine walks_round hs hS h3 hlt (fun a' W' T' Ds' e1 e2 e3 => ?_)
    refine ⟨⟨_, T', Ds', e1, e2, e3⟩, ?_⟩
    rw [turn_eq e1 e3]
    omega
  · obtain rfl : τ = 3 := by have := h3.le; omega
    exact walks_out h3 (fun a' e1 e2 => hexit a' W1 T1 Ds e1 e2 h3)
set_option maxRecDepth 100000 in
set_option maxHeartbeats 4000000 in
theorem law_UtfWalks (w : World) (hT : Lib.Utf8Tabs 0 1 w) (s : ByteArray) (hs0 : s.size ≤ 140737488351232) (hs : s.size ≤ 1048576) (n : Int) (hn : (Lit.int .i64 n).wf = true) :
    Calls Tryd.prog 16 #[.string s, .int .i64 n] w fun e w' => e = .returned (.bool true) ∧ Below w.heap.size w w' := by
  refine (callsIn_wide (n := 9)).1 ?_
  refine callsIn_of_wp_marks Tryd.func16 rfl trivial ?_
  simp only [Tryd.ntmps16, List.size_toArray, List.length_cons, List.length_nil, Nat.reduceAdd, Nat.reduceSub, Array.replicate_succ, Array.replicate_zero, List.push_toArray, List.append_toArray, List.nil_append, List.cons_append]
  have hbl := bl_len s
  obtain ⟨m, hm⟩ : ∃ m, (sfx (bl s)).length = m := ⟨_, rfl⟩
  have hml : m ≤ s.size := by
    have := sfx_len (bl s)
    rw [hm, hbl] at this
    exact this
  have cW := fun W (h : Below w.heap.size w W) => callsIn_wide (n := 8).2 (works01_any W (tabs_below hT h (Nat.le_refl _)))
  have cP := fun W => callsIn_wide (n := 8).2 (places_any s hs m hm W)
  have cR := fun W => callsIn_wide (n := 8).2 (runes01_any s hs m hm W)
  obtain ⟨r, hr, hp⟩ := pick_small n m (by omega)
  have cK := fun W => callsIn_wide (n := 8).2 (glossarykit_Pick.calls n ((m : Int) + 1) (r : Int) W hp)
  have cA := fun W => callsIn_wide (n := 8).2 (allfn_any s W)
  have cB := fun W => callsIn_wide (n := 8).2 (backfn_any s W)
  have Htab := Lib.hid hT
  have Hm := Lib.hid hm
  have Hs := Lib.hid hs
  have heq := eql_fn
  clear hT hbl hp hm
  gi_wp2_with fail
  obtain ⟨W1, hW1⟩ : ∃ W1, w.alloc (.cells #[.int .i64 n] 3) = W1 := ⟨_, rfl⟩
  have q0 := cell_new_l w (.int .i64 n) 3
  have z1 : W1.heap.size = w.heap.size + 1 := by rw [← hW1]; simp
  have k1 : Keeps none' w W1 := by rw [← hW1]; exact Keeps.alloc _ _ _
  rw [hW1] at q0 ⊢
  obtain ⟨W2, hW2⟩ : ∃ W2, W1.alloc (.cells #[.bool false] 4) = W2 := ⟨_, rfl⟩
  have q1 := cell_new_l W1 (.bool false) 4
  have z2 : W2.heap.size = w.heap.size + 2 := by rw [← hW2]; simp; omega
  have k2 : Keeps none' W1 W2 := by rw [← hW2]; exact Keeps.alloc _ _ _
  rw [hW2, z1] at q1
  rw [hW2]
  have nn : ∀ {A B C : World}, Keeps none' A B → Keeps none' B C → Keeps none' A C := fun h k => h.trans k (fun _ _ h => h)
  have k02 : Keeps none' w W2 := nn k1 k2
  have b02 : Below w.heap.size w W2 := k02.below (Nat.le_refl _) (fun _ h => h.elim)
  refine ⟨trivial, (cW _ b02).mono ?_⟩
  rintro e W3 ⟨rfl, b3⟩
  have k3 : Keeps none' W2 W3 := Keeps.of_below0 b3
  have k03 := nn k02 k3
  have n3 := (nn k2 k3).cell q0.1 (fun h => h)
  have nz3 : W3.frozen? ⟨w.heap.size, 0, none⟩ = false := (frozen_keeps (nn k2 k3) (World.block_lt_of_cell? W1 _ q0.1) (fun h => h)).trans q0.2
  have r3 := k3.cell q1.1 (fun h => h)
  have rz3 : W3.frozen? ⟨w.heap.size + 1, 0, none⟩ = false := (frozen_keeps k3 (World.block_lt_of_cell? W2 _ q1.1) (fun h => h)).trans q1.2
  have big3 : w.heap.size + 2 ≤ W3.heap.size := by have := k3.size; omega
  have Hk03 := Lib.hid k03
  clear q0 q1 k1 k2 k3 hW1 hW2 z1 z2 b02 k02 b3 cW k03
  gi_wp2_with fail
  refine ⟨trivial, (cP _).mono ?_⟩
  rintro e W4 ⟨Ap, cp, rfl, hcp, hRp, hAp, b4⟩
  have k34 : Keeps none' W3 W4 := Keeps.of_below0 b4
  clear cP b4
  gi_wp2_with fail
  obtain ⟨W5, hW5⟩ : ∃ W5, W4.alloc (.cells #[.slice Ap m cp] 64) = W5 := ⟨_, rfl⟩
  have q5 := cell_new_l W4 (.slice Ap m cp) 64
  have k45 : Keeps none' W4 W5 := by rw [← hW5]; exact Keeps.alloc _ _ _
  rw [hW5] at q5 ⊢
  clear hW5
  refine ⟨trivial, (cR _).mono ?_⟩
  rintro e W6 ⟨Ar, cr, rfl, hcr, hRr, hAr, b6⟩
  have k56 : Keeps none' W5 W6 := Keeps.of_below0 b6
  clear cR b6
  have n6 := (nn k34 (nn k45 k56)).cell n3 (fun h => h)
  have nz6 : W6.frozen? ⟨w.heap.size, 0, none⟩ = false := (frozen_keeps (nn k34 (nn k45 k56)) (World.block_lt_of_cell? W3 _ n3) (fun h => h)).trans nz3
  have p6 := k56.cell q5.1 (fun h => h)
  have n6' := fun o => cell_alloc_l o n6
  have p6' := fun o => cell_alloc_l o p6
  gi_wp2_with fail
  obtain ⟨W7, hW7⟩ : ∃ W7, W6.alloc (.cells #[.slice Ar m cr] 22) = W7 := ⟨_, rfl⟩
  have q7 := cell_new_l W6 (.slice Ar m cr) 22
  have k67 : Keeps none' W6 W7 := by rw [← hW7]; exact Keeps.alloc _ _ _
  rw [hW7] at q7 ⊢
  have n7 := k67.cell n6 (fun h => h)
  have nz7 : W7.frozen? ⟨w.heap.size, 0, none⟩ = false := (frozen_keeps k67 (World.block_lt_of_cell? W6 _ n6) (fun h => h)).trans nz6
  clear n6' p6' hW7
  refine ⟨trivial, (cK _).mono ?_⟩
  rintro e W8 ⟨rfl, d8⟩
  have k78 : Keeps none' W7 W8 := Keeps.of_below0 d8.below
  clear cK d8
  have n8 := k78.cell n7 (fun h => h)
  have nz8 : W8.frozen? ⟨w.heap.size, 0, none⟩ = false := (frozen_keeps k78 (World.block_lt_of_cell? W7 _ n7) (fun h => h)).trans nz7
  gi_wp2_with fail
  obtain ⟨W9, hW9⟩ : ∃ W9, W8.setCell ⟨w.heap.size, 0, none⟩ (.int .i64 (r : Int)) = W9 := ⟨_, rfl⟩
  have k89 : Keeps (fun k => k = w.heap.size) W8 W9 := by rw [← hW9]; exact Keeps.setCell _ _ _ rfl
  have n9 : W9.cell? ⟨w.heap.size, 0, none⟩ = some (.int .i64 (r : Int)) := by rw [← hW9]; exact World.cell?_setCell_same' _ _ _ (by rw [n8]; rfl)
  rw [hW9]
  clear hW9
  refine ⟨trivial, (cA _).mono ?_⟩
  rintro e w' ⟨rfl, rfl⟩
  obtain ⟨Wa, hWa⟩ : ∃ Wa, W9.alloc (.cells #[.string s] 9) = Wa := ⟨_, rfl⟩
  have qa := cell_new_l W9 (.string s) 9
  have ka : Keeps none' W9 Wa := by rw [← hWa]; exact Keeps.alloc _ _ _
  rw [hWa] at qa ⊢
  clear hWa cA
  gi_wp2_with fail
  obtain ⟨Wb, hWb⟩ : ∃ Wb, Wa.alloc (.cells #[.func (.func 91) #[] #[.pointer (some ⟨W9.heap.size, 0, none⟩)]] 51) = Wb := ⟨_, rfl⟩
  have qb := cell_new_l Wa (.func (.func 91) #[] #[.pointer (some ⟨W9.heap.size, 0, none⟩)]) 51
  have kb : Keeps none' Wa Wb := by rw [← hWb]; exact Keeps.alloc _ _ _
  rw [hWb] at qb ⊢
  clear hWb
  refine ⟨trivial, (cB _).mono ?_⟩
  rintro e w' ⟨rfl, rfl⟩
  obtain ⟨Wc, hWc⟩ : ∃ Wc, Wb.alloc (.cells #[.string s] 9) = Wc := ⟨_, rfl⟩
  have qc := cell_new_l Wb (.string s) 9
  have kc : Keeps none' Wb Wc := by rw [← hWc]; exact Keeps.alloc _ _ _
  rw [hWc] at qc ⊢
  clear hWc cB
  have ob := (nn kc (Keeps.refl _ _)).cell qb.1 (fun h => h)
  have ob' := fun o => cell_alloc_l o ob
  have h67 : ∀ k, k ≠ w.heap.size → ¬ (fun k => k = w.heap.size) k := fun k h e => h e
  have z45 : w.heap.size + 2 ≤ W4.heap.size := by have := k34.size; omega
  have z6 : w.heap.size + 2 ≤ W6.heap.size := by have := k45.size; have := k56.size; omega
  have k48 := nn k45 (nn k56 (nn k67 k78))
  have k68 := nn k67 k78
  have kac := nn ka (nn kb kc)
  have pc := kac.cell (k89.cell (nn k56 k68 |>.cell q5.1 (fun h => h)) (by show ¬ W4.heap.size = w.heap.size; omega)) (fun h => h)
  have rc := kac.cell (k89.cell (k78.cell q7.1 (fun h => h)) (by show ¬ W6.heap.size = w.heap.size; omega)) (fun h => h)
  have nc := kac.cell n9 (fun h => h)
  have pc' := fun o => cell_alloc_l o pc
  have rc' := fun o => cell_alloc_l o rc
  have nc' := fun o => cell_alloc_l o nc
  gi_wp2_with fail
  clear pc' rc' nc' ob'
  obtain ⟨Wd, hWd⟩ : ∃ Wd, Wc.alloc (.cells #[.func (.func 100) #[] #[.pointer (some ⟨Wb.heap.size, 0, none⟩)]] 51) = Wd := ⟨_, rfl⟩
  have qd := cell_new_l Wc (.func (.func 100) #[] #[.pointer (some ⟨Wb.heap.size, 0, none⟩)]) 51
  have kd : Keeps none' Wc Wd := by rw [← hWd]; exact Keeps.alloc _ _ _
  rw [hWd] at qd ⊢
  clear hWd
  have b38 : Below w.heap.size W3 W8 := (nn k34 k48).below (by omega) (fun _ z => z.elim)
  have b39 : Below w.heap.size W3 W9 := b38.trans (k89.below (by have := b38.size; omega) (fun k z => by omega))
  have b0d : Below w.heap.size w Wd := ((keeps_below Hk03.out).trans b39).trans ((nn kac kd).below (by have := b39.size; omega) (fun _ z => z.elim))
  have hTd : Tabs Wd := tabs_below Htab.out b0d (Nat.le_refl _)
  have k9d := nn kac kd
  -- what Places and Runes gave, as it lies now
  have cP : ∀ (q : Nat) (f : Int), (begs (bl s))[q]? = some f → ∃ x, Ap = some x ∧ Wd.cell? (x.add q) = some (.int .i64 f) ∧ x.block < Wd.heap.size := by
    intro q f hf
    rcases hRp with h | ⟨x, hx, hlt, hc⟩
    · rw [h] at hf; simp at hf
    · have hb : W3.heap.size ≤ x.block := by
        rcases hAp x hx with h | h
        · exact h
        · exfalso
          have h2 : (begs (bl s)).length = m := by unfold begs; rw [List.length_map]; exact Hm.out
          have := (List.getElem?_eq_some_iff.1 hf).1
          omega
      refine ⟨x, hx, k9d.cell (k89.cell (k48.cell (hc q f hf) (fun h => h)) ?_) (fun h => h), ?_⟩
      · rw [add_block]; show ¬ x.block = w.heap.size; omega
      · have := k48.size; have := k89.size; have := k9d.size; omega
  have cR : ∀ (q : Nat) (f : Int), (runes (bl s))[q]? = some f → ∃ x, Ar = some x ∧ Wd.cell? (x.add q) = some (.int .i32 f) ∧ x.block < Wd.heap.size := by
    intro q f hf
    rcases hRr with h | ⟨x, hx, hlt, hc⟩
    · rw [h] at hf; simp at hf
    · have hb : W5.heap.size ≤ x.block := by
        rcases hAr x hx with h | h
        · exact h
        · exfalso
          have h2 : (runes (bl s)).length = m := by unfold runes; rw [List.length_map]; exact Hm.out
          have := (List.getElem?_eq_some_iff.1 hf).1
          omega
      have := k45.size
      refine ⟨x, hx, k9d.cell (k89.cell (k68.cell (hc q f hf) (fun h => h)) ?_) (fun h => h), ?_⟩
      · rw [add_block]; show ¬ x.block = w.heap.size; omega
      · have := k68.size; have := k89.size; have := k9d.size; omega
  have rdP : Rd Wd Wd.heap.size .i64 Ap (begs (bl s)) := by
    cases hb : begs (bl s) with
    | nil => exact .inl rfl
    | cons z zs =>
      obtain ⟨x, hx, _, hl⟩ := cP 0 z (by rw [hb]; rfl)
      refine .inr ⟨x, hx, hl, fun j u hj => ?_⟩
      obtain ⟨x', hx', hc', _⟩ := cP j u (by rw [hb]; exact hj)
      rw [hx] at hx'; injection hx' with hx'; rw [hx']; exact hc'
  have rdR : Rd Wd Wd.heap.size .i32 Ar (runes (bl s)) := by
    cases hb : runes (bl s) with
    | nil => exact .inl rfl
    | cons z zs =>
      obtain ⟨x, hx, _, hl⟩ := cR 0 z (by rw [hb]; rfl)
      refine .inr ⟨x, hx, hl, fun j u hj => ?_⟩
      obtain ⟨x', hx', hc', _⟩ := cR j u (by rw [hb]; exact hj)
      rw [hx] at hx'; injection hx' with hx'; rw [hx']; exact hc'
  have cF := callsIn_wide (n := 8).2 (forward_any Wd s Hs.out m Hm.out Ap Ar cp cr rdP rdR (r : Int))
  have cG := fun W (h : Below Wd.heap.size Wd W) => callsIn_wide (n := 8).2 (backward_any W s Hs.out m Hm.out Ap Ar cp cr ((rdP.below h (Nat.le_refl _)).more h.size) ((rdR.below h (Nat.le_refl _)).more h.size) (tabs_below hTd h (Nat.le_refl _)) (r : Int))
  have hS : US w Wd s W4.heap.size W6.heap.size Wa.heap.size Wc.heap.size W9.heap.size Wb.heap.size r m Ap Ar cp cr := by
    have h3 : ∀ {b : Nat} {v : Value}, W3.cell? ⟨b, 0, none⟩ = some v → b ≠ w.heap.size → Wd.cell? ⟨b, 0, none⟩ = some v := fun hc hn => k9d.cell (k89.cell ((nn k34 k48).cell hc (fun h => h)) hn) (fun h => h)
    refine ⟨hTd, b0d, k9d.cell n9 (fun h => h), h3 r3 (by omega), ?_, kd.cell pc (fun h => h), kd.cell rc (fun h => h), (nn kc kd).cell qb.1 (fun h => h), qd.1, (nn kb (nn kc kd)).cell qa.1 (fun h => h), kd.cell qc.1 (fun h => h), fun q f hf => ?_, fun q f hf => ?_, Hm.out, hr⟩
    · have l3 := World.block_lt_of_cell? W3 _ r3
      have e8 := (nn k34 k48).cell r3 (fun h => h)
      have l8 := World.block_lt_of_cell? W8 _ e8
      have e9 := k89.cell e8 (by show ¬ w.heap.size + 1 = w.heap.size; omega)
      rw [frozen_keeps k9d (World.block_lt_of_cell? W9 _ e9) (fun h => h), frozen_keeps k89 l8 (by show ¬ w.heap.size + 1 = w.heap.size; omega), frozen_keeps (nn k34 k48) l3 (fun h => h)]
      exact rz3
    · obtain ⟨x, h1, h2, _⟩ := cP q f hf; exact ⟨x, h1, h2⟩
    · obtain ⟨x, h1, h2, _⟩ := cR q f hf; exact ⟨x, h1, h2⟩
  have HS := Lib.hid hS
  have pd := hS.pp
  have rd := hS.rr
  have nd := hS.nn
  clear hS cP cR rdP rdR k9d hTd b39 b38 qa qb qc qd q5 q7 ka kb kc kd kac pc rc nc ob hRp hRr hAp hAr k34 k45 k56 k67 k78 k89 k48 k68 n3 nz3 r3 rz3 n6 nz6 p6 n7 nz7 n8 nz8 n9 h67 z45 z6
  have hwd : w.heap.size + 2 ≤ Wd.heap.size := by have := World.block_lt_of_cell? Wd _ HS.out.r; exact this
  refine ⟨trivial, cF.mono ?_⟩
  rintro e We ⟨rfl, be⟩
  have pe := be.cell (p := ⟨W4.heap.size, 0, none⟩) (World.block_lt_of_cell? Wd _ pd) |>.trans pd
  have re := be.cell (p := ⟨W6.heap.size, 0, none⟩) (World.block_lt_of_cell? Wd _ rd) |>.trans rd
  have ne := be.cell (p := ⟨w.heap.size, 0, none⟩) (World.block_lt_of_cell? Wd _ nd) |>.trans nd
  clear cF pd rd nd
  gi_wp2_with fail
  refine ⟨trivial, (cG _ be).mono ?_⟩
  rintro e Wf ⟨rfl, bf⟩
  have kdf : Keeps none' Wd Wf := nn (Keeps.of_below0 be) (Keeps.of_below0 bf)
  clear cG pe re ne be bf
  gi_wp2_with fail
  have qg := cell_new_l Wf (.int .i64 0) 3
  have kg : Keeps none' Wf (Wf.alloc (.cells #[.int .i64 0] 3)) := Keeps.alloc _ _ _
  generalize Wf.alloc (.cells #[.int .i64 0] 3) = Wg at qg kg ⊢
  have hW : UW Wd 0 Wf.heap.size [] Wg := ⟨nn kdf kg, by omega, qg.1, qg.2, List.nodup_nil, (fun D h => by cases h), (fun D h => by cases h)⟩
  refine walks_loop Hs.out HS.out hW rfl rfl ?_
  intro a' W' T' Ds' e1 e2 e3
  refine ‹∀ (a : Act) (w : World), Code.wpIn _ _ _ _ _ a w → _› _ _ ?_
  obtain ⟨tm, df⟩ := a'
  dsimp only at e1 e2
  generalize (fun i => tm.getD i undef) = g1 at e1
  subst e1
  subst e2
  exact walks_end HS.out e3 hwd
end Go.Proofs.YtbkimhbpcmbflaaDoor.C
