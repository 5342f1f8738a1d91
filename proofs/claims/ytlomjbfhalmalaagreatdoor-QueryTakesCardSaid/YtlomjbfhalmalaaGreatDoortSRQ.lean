/-
  Of this seat's texts what the claim wants (printed by a program): SRQ.
-/
import Derived.Test.YtlomjbfhalmalaaGreatDoorCards
import Derived.Test.YtlomjbfhalmalaaGreatDoorTie
import Derived.Test.YtlomjbfhalmalaaGreatDoortJ1
import Derived.WalkKit
import Derived.ProofKit
import Derived.OpenShut
import Derived.ShutString
import Derived.Below
import Derived.SizedLaws
import Derived.Deep.DeepHandedRow
import Derived.Lib.LaidTab
import Derived.Lib.LaidU8
import Derived.LaidHandle
import Derived.LaidLaws
import Derived.LaidMore
import Derived.PinnedBridge
import Derived.Test.YtlomjbfhalmalaaGreatDoortWSized
import Derived.JoinedOf
set_option linter.unusedVariables false
set_option linter.unusedSimpArgs false
namespace Go.Proofs.YtlomjbfhalmalaaGreatDoor.R
open Go Go.ChangeShapes Go.WideShapes Go.ChangeAt Go.RowKit Go.Lib Go.Proofs.YtlomjbfhalmalaaGreatDoor.C
theorem own : ownKnob Tryz.prog.godebug = none := by kernel_rfl
theorem gE : Tryz.prog.globalNamed "errors.errorType" = some 0 := by kernel_rfl
theorem gRt : (Tryz.prog.cutTypes.find? (·.1 == "internal/reflectlite.rtype")).map (·.2) = some 123 := by kernel_rfl
theorem oneRow : ((List.range 205).filter fun t => Tryz.prog.rowNamed t [101, 114, 114, 111, 114]) = [30] := by kernel_rfl
theorem size : Tryz.prog.types.size = 205 := by kernel_rfl
theorem xU : U8Extra Tryz.prog Tryz.lays260_ren := ⟨by kernel_rfl, by kernel_rfl, by kernel_rfl, by kernel_rfl, by kernel_rfl, by kernel_rfl, by kernel_rfl⟩
theorem hE_of {l : List (String × DataW Unit)} {W : World} (h : handlesMet Tryz.prog l W) (hm : ("errors.errorType", Rows.laid_errors_errorType) ∈ l) : HE W := by
  obtain ⟨name, u, ty, e1, e2, e3, e4, e5⟩ := h _ hm
  have en : name = [101, 114, 114, 111, 114] := (Option.some.inj e1).symm
  subst en
  obtain rfl := Option.some.inj (gRt.symm.trans e2)
  have hm : ty ∈ (List.range 205).filter fun t => Tryz.prog.rowNamed t [101, 114, 114, 111, 114] := List.mem_filter.2 ⟨List.mem_range.2 (by rw [← size]; exact e3), e4⟩
  rw [oneRow] at hm
  obtain rfl := List.mem_singleton.1 hm
  have hh : typeHandle Tryz.prog 30 = .pointer (some ⟨4, 30, none⟩) := by kernel_rfl
  rw [hh] at e5
  simpa [HE] using World.var?_cell gE e5 0
theorem tabs_of {l : List (String × DataW Unit)} {W : World} (h : laidMet Tryz.prog l W) (h1 : ("unicode/utf8.acceptRanges", Rows.laid_unicode_utf8_acceptRanges) ∈ l) (h2 : ("unicode/utf8.first", Rows.laid_unicode_utf8_first) ∈ l) :
    Lib.Utf8Tabs 1 2 W := by
  have e : (Rows.laid_unicode_utf8_acceptRanges : DataW Unit) = acceptData := by kernel_rfl
  exact utf8Tabs_of_reads Tryz.lays260 xU (Pinned.utf8First_eq ▸ laidMet.reads h h2) (e ▸ laidMet.reads h h1)
def lE : List (String × DataW Unit) := [("errors.errorType", Rows.laid_errors_errorType)]
def lU : List (String × DataW Unit) := [("unicode/utf8.acceptRanges", Rows.laid_unicode_utf8_acceptRanges), ("unicode/utf8.first", Rows.laid_unicode_utf8_first)]
def lUE : List (String × DataW Unit) := [("unicode/utf8.acceptRanges", Rows.laid_unicode_utf8_acceptRanges), ("errors.errorType", Rows.laid_errors_errorType), ("unicode/utf8.first", Rows.laid_unicode_utf8_first)]
theorem of_lUE {W : World} (h : laidMetH Tryz.prog lUE W) : HE W ∧ Lib.Utf8Tabs 1 2 W := by
  have h' : laidMet Tryz.prog lU W ∧ handlesMet Tryz.prog lE W := h
  exact ⟨hE_of h'.2 (.head _), tabs_of h'.1 (.head _) (.tail _ (.head _))⟩
noncomputable def laidWorld (os : Os) : World :=
  let w0 := World.holding Tryz.prog os ⟨#[], #[], []⟩
  { w0 with heap := ((w0.heap.modify 1 fun
      | .cells _ t frozen => .cells ((List.range 256).map fun c => Value.int .u8 (firstT c)).toArray t frozen
      | o => o).modify 2 fun
      | .cells _ t frozen => .cells ((List.range 32).map fun c => Value.int .u8 (if c % 2 = 0 then accLo (c / 2) else accHi (c / 2))).toArray t frozen
      | o => o).modify 0 fun
      | .cells _ t frozen => .cells #[.iface 123 (.agg #[.pointer (some ⟨4, 30, none⟩)])] t frozen
      | o => o }
theorem lUE_met (os : Os) (args : Array Value) : laidMetH Tryz.prog lUE ((laidWorld os).forCall (fun _ _ => 0) ⟨#[], args, []⟩).memory :=
  laidMetH_of_parts3 (fuel := 8) (laidMet_of_run' 8 (by kernel_rfl) (by kernel_rfl)) (by kernel_rfl) (by kernel_rfl)
end Go.Proofs.YtlomjbfhalmalaaGreatDoor.R
set_option linter.unusedVariables false
set_option maxRecDepth 1000000
namespace Go.Proofs.YtlomjbfhalmalaaGreatDoor.R
open Go
theorem and_mk {a b : Bool} (x : a = true) (y : b = true) : (a && b) = true := by simp [x, y]
def headText : String := "harness 9c906e2db941e449e0817f9a65fc0c5c9fcf1d344643e0fa473ffb65c0b15fd3 cut at glossary/glossarylaw28.QueryPrints glossary/glossarylaw28.QueryLikes glossary/glossarylaw28.QueryEdits glossary/glossarylaw28.QueryBack glossary/glossarylaw28.QueryForm glossary/glossarylaw28.QueryNear glossary/glossarylaw28.QueryKnown glossary/glossarylaw28.QueryTakes"
def headSigns : List Char := [Char.ofNat 104, Char.ofNat 97, Char.ofNat 114, Char.ofNat 110, Char.ofNat 101, Char.ofNat 115, Char.ofNat 115, Char.ofNat 32, Char.ofNat 57, Char.ofNat 99, Char.ofNat 57, Char.ofNat 48, Char.ofNat 54, Char.ofNat 101, Char.ofNat 50, Char.ofNat 100, Char.ofNat 98, Char.ofNat 57, Char.ofNat 52, Char.ofNat 49, Char.ofNat 101, Char.ofNat 52, Char.ofNat 52, Char.ofNat 57, Char.ofNat 101, Char.ofNat 48, Char.ofNat 56, Char.ofNat 49, Char.ofNat 55, Char.ofNat 102, Char.ofNat 57, Char.ofNat 97, Char.ofNat 54, Char.ofNat 53, Char.ofNat 102, Char.ofNat 99, Char.ofNat 48, Char.ofNat 99, Char.ofNat 53, Char.ofNat 99, Char.ofNat 57, Char.ofNat 102, Char.ofNat 99, Char.ofNat 102, Char.ofNat 49, Char.ofNat 100, Char.ofNat 51, Char.ofNat 52, Char.ofNat 52, Char.ofNat 54, Char.ofNat 52, Char.ofNat 51, Char.ofNat 101, Char.ofNat 48, Char.ofNat 102, Char.ofNat 97, Char.ofNat 52, Char.ofNat 55, Char.ofNat 51, Char.ofNat 102, Char.ofNat 102, Char.ofNat 98, Char.ofNat 54, Char.ofNat 53, Char.ofNat 99, Char.ofNat 48, Char.ofNat 98, Char.ofNat 49, Char.ofNat 53, Char.ofNat 102, Char.ofNat 100, Char.ofNat 51, Char.ofNat 32, Char.ofNat 99, Char.ofNat 117, Char.ofNat 116, Char.ofNat 32, Char.ofNat 97, Char.ofNat 116, Char.ofNat 32, Char.ofNat 103, Char.ofNat 108, Char.ofNat 111, Char.ofNat 115, Char.ofNat 115, Char.ofNat 97, Char.ofNat 114, Char.ofNat 121, Char.ofNat 47, Char.ofNat 103, Char.ofNat 108, Char.ofNat 111, Char.ofNat 115, Char.ofNat 115, Char.ofNat 97, Char.ofNat 114, Char.ofNat 121, Char.ofNat 108, Char.ofNat 97, Char.ofNat 119, Char.ofNat 50, Char.ofNat 56, Char.ofNat 46, Char.ofNat 81, Char.ofNat 117, Char.ofNat 101, Char.ofNat 114, Char.ofNat 121, Char.ofNat 80, Char.ofNat 114, Char.ofNat 105, Char.ofNat 110, Char.ofNat 116, Char.ofNat 115, Char.ofNat 32, Char.ofNat 103, Char.ofNat 108, Char.ofNat 111, Char.ofNat 115, Char.ofNat 115, Char.ofNat 97, Char.ofNat 114, Char.ofNat 121, Char.ofNat 47, Char.ofNat 103, Char.ofNat 108, Char.ofNat 111, Char.ofNat 115, Char.ofNat 115, Char.ofNat 97, Char.ofNat 114, Char.ofNat 121, Char.ofNat 108, Char.ofNat 97, Char.ofNat 119, Char.ofNat 50, Char.ofNat 56, Char.ofNat 46, Char.ofNat 81, Char.ofNat 117, Char.ofNat 101, Char.ofNat 114, Char.ofNat 121, Char.ofNat 76, Char.ofNat 105, Char.ofNat 107, Char.ofNat 101, Char.ofNat 115, Char.ofNat 32, Char.ofNat 103, Char.ofNat 108, Char.ofNat 111, Char.ofNat 115, Char.ofNat 115, Char.ofNat 97, Char.ofNat 114, Char.ofNat 121, Char.ofNat 47, Char.ofNat 103, Char.ofNat 108, Char.ofNat 111, Char.ofNat 115, Char.ofNat 115, Char.ofNat 97, Char.ofNat 114, Char.ofNat 121, Char.ofNat 108, Char.ofNat 97, Char.ofNat 119, Char.ofNat 50, Char.ofNat 56, Char.ofNat 46, Char.ofNat 81, Char.ofNat 117, Char.ofNat 101, Char.ofNat 114, Char.ofNat 121, Char.ofNat 69, Char.ofNat 100, Char.ofNat 105, Char.ofNat 116, Char.ofNat 115, Char.ofNat 32, Char.ofNat 103, Char.ofNat 108, Char.ofNat 111, Char.ofNat 115, Char.ofNat 115, Char.ofNat 97, Char.ofNat 114, Char.ofNat 121, Char.ofNat 47, Char.ofNat 103, Char.ofNat 108, Char.ofNat 111, Char.ofNat 115, Char.ofNat 115, Char.ofNat 97, Char.ofNat 114, Char.ofNat 121, Char.ofNat 108, Char.ofNat 97, Char.ofNat 119, Char.ofNat 50, Char.ofNat 56, Char.ofNat 46, Char.ofNat 81, Char.ofNat 117, Char.ofNat 101, Char.ofNat 114, Char.ofNat 121, Char.ofNat 66, Char.ofNat 97, Char.ofNat 99, Char.ofNat 107, Char.ofNat 32, Char.ofNat 103, Char.ofNat 108, Char.ofNat 111, Char.ofNat 115, Char.ofNat 115, Char.ofNat 97, Char.ofNat 114, Char.ofNat 121, Char.ofNat 47, Char.ofNat 103, Char.ofNat 108, Char.ofNat 111, Char.ofNat 115, Char.ofNat 115, Char.ofNat 97, Char.ofNat 114, Char.ofNat 121, Char.ofNat 108, Char.ofNat 97, Char.ofNat 119, Char.ofNat 50, Char.ofNat 56, Char.ofNat 46, Char.ofNat 81, Char.ofNat 117, Char.ofNat 101, Char.ofNat 114, Char.ofNat 121, Char.ofNat 70, Char.ofNat 111, Char.ofNat 114, Char.ofNat 109, Char.ofNat 32, Char.ofNat 103, Char.ofNat 108, Char.ofNat 111, Char.ofNat 115, Char.ofNat 115, Char.ofNat 97, Char.ofNat 114, Char.ofNat 121, Char.ofNat 47, Char.ofNat 103, Char.ofNat 108, Char.ofNat 111, Char.ofNat 115, Char.ofNat 115, Char.ofNat 97, Char.ofNat 114, Char.ofNat 121, Char.ofNat 108, Char.ofNat 97, Char.ofNat 119, Char.ofNat 50, Char.ofNat 56, Char.ofNat 46, Char.ofNat 81, Char.ofNat 117, Char.ofNat 101, Char.ofNat 114, Char.ofNat 121, Char.ofNat 78, Char.ofNat 101, Char.ofNat 97, Char.ofNat 114, Char.ofNat 32, Char.ofNat 103, Char.ofNat 108, Char.ofNat 111, Char.ofNat 115, Char.ofNat 115, Char.ofNat 97, Char.ofNat 114, Char.ofNat 121, Char.ofNat 47, Char.ofNat 103, Char.ofNat 108, Char.ofNat 111, Char.ofNat 115, Char.ofNat 115, Char.ofNat 97, Char.ofNat 114, Char.ofNat 121, Char.ofNat 108, Char.ofNat 97, Char.ofNat 119, Char.ofNat 50, Char.ofNat 56, Char.ofNat 46, Char.ofNat 81, Char.ofNat 117, Char.ofNat 101, Char.ofNat 114, Char.ofNat 121, Char.ofNat 75, Char.ofNat 110, Char.ofNat 111, Char.ofNat 119, Char.ofNat 110, Char.ofNat 32, Char.ofNat 103, Char.ofNat 108, Char.ofNat 111, Char.ofNat 115, Char.ofNat 115, Char.ofNat 97, Char.ofNat 114, Char.ofNat 121, Char.ofNat 47, Char.ofNat 103, Char.ofNat 108, Char.ofNat 111, Char.ofNat 115, Char.ofNat 115, Char.ofNat 97, Char.ofNat 114, Char.ofNat 121, Char.ofNat 108, Char.ofNat 97, Char.ofNat 119, Char.ofNat 50, Char.ofNat 56, Char.ofNat 46, Char.ofNat 81, Char.ofNat 117, Char.ofNat 101, Char.ofNat 114, Char.ofNat 121, Char.ofNat 84, Char.ofNat 97, Char.ofNat 107, Char.ofNat 101, Char.ofNat 115]
theorem head_eq : Tryz.prog.initOrder = headText := by kernel_rfl
theorem head_lit : headText = String.ofList headSigns := by kernel_rfl
theorem head_signs : Tryz.prog.initOrder.toList = headSigns := by rw [head_eq, head_lit]; exact String.toList_ofList
theorem laysLater : Tryz.prog.laysLater = false := by kernel_rfl
theorem bearsReflect : Tryz.prog.bearsReflect = false := by kernel_rfl
theorem mayEnter : Tryz.prog.mayEnter = true := by
  rw [Program.mayEnter, head_signs, laysLater, bearsReflect]
  as_aux_lemma => kernel_rfl
theorem liftsFinal : Tryz.prog.liftsFinal = false := by
  rw [Program.liftsFinal, Program.headLifts, head_signs]
  as_aux_lemma => kernel_rfl
theorem make : Tryz.prog.make = some .cut := by
  rw [Program.make, Program.headLifts, head_signs]
  as_aux_lemma => kernel_rfl
theorem mainIs : Tryz.prog.mainIs = some (true, ("9c906e2db941e449e0817f9a65fc0c5c9fcf1d344643e0fa473ffb65c0b15fd3" : String).toList) := by
  rw [Program.mainIs, head_signs]
  as_aux_lemma => kernel_rfl
theorem stopsHeard : Tryz.prog.stopsHeard = true := by kernel_rfl
end Go.Proofs.YtlomjbfhalmalaaGreatDoor.R
