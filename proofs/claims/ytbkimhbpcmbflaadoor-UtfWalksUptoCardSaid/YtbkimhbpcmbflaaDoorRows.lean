/-
  NARROWER THAN 'FOR EVERY INPUT', by the rows' own cells (each row's printed sentence says how): PointsOf: laid · PointsText: laid · PointsBack: laid · PointsRow: laid · UtfFulls: laid · UtfBads: laid · UtfMends: laid · UtfCuts: laid · UtfEncodes: laid · PointsNext: laid · PointsOrder: laid · PointsRange: laid · UtfUnits: laid · UtfWalks: laid · PointsMutual: laid · PointsPlaces: laid · PointsKnown: laid · UtfMended: laid · UtfRange: laid · UtfKnown: laid · UtfSides: laid.
  DERIVED. THE GIVEN ROWS OF THIS SEAT. 21 by the template 'for every input the law returns true; each argument reads behind the call as it read before'; 0 by the template 'total and deterministic' (their statements: YtbkimhbpcmbflaaDoorTotals.lean).
  GIVEN WITH THE SEED: the statements are not yours to turn. If you find one false, say at which input.
  Laid BY PROGRAM, IN A SANDBOX (cutbox-rows.mjs): the forced cells as the released guide's own fill.sh prints them over the translation 98abfa3905fb31da… (all of the seat's roots in one cut). By AI agents, Wed Nov 11 2026. No macro, syntax, notation, axiom, sorry.
-/
import Derived.Test.YtbkimhbpcmbflaaDoorChecked
import GoSem.PinnedTables
import GoSem.Claim
import GoSem.ClaimJoined
import GoSem.ClaimMapViews
import Derived.JoinedTies
import Derived.KernelRfl
namespace Go.Proofs.YtbkimhbpcmbflaaDoor
/- THE CELL 'sum', in the pinned program and in every row, IS THE sha256 OF THE DUMP (.gsa) THAT YtbkimhbpcmbflaaDoorProg.lean LOADS. Nothing in Lean hashes anything: it is a label: what it is worth is what the hold of that sum in a sandbox is worth. -/
noncomputable def Tryd.pinned : Pinned := { name := "ytbkimhbpcmbflaadoor", sum := "98abfa3905fb31da03bd0ced410e3db0a10a18d6f2aaf9b7c3a8c6b36d76c925", checked := Tryd.checked }
namespace Rows
def none {H : Type} : Left H := { results := [], args := [] }

/- WHAT THE LISTED PACKAGE-LEVEL VARIABLES READ AS WHEN THE CALL BEGINS. Each datum BY PROGRAM (the guide's laid-datum.mjs) off the statement by which the dump's own 'gosem.cut.vars' lays the variable. In a bare row this is a premise. The card (YtbkimhbpcmbflaaDoorCards.lean) ties it to the program's text. -/
def laid_errors_errorType {H : Type} : DataW H := .iface "internal/reflectlite.rtype" (.agg [.ptr (.lit (.string [101, 114, 114, 111, 114]))])
def laid_unicode_utf8_acceptRanges {H : Type} : DataW H := .agg [.agg [.lit (.int .u8 128), .lit (.int .u8 191)], .agg [.lit (.int .u8 160), .lit (.int .u8 191)], .agg [.lit (.int .u8 128), .lit (.int .u8 159)], .agg [.lit (.int .u8 144), .lit (.int .u8 191)], .agg [.lit (.int .u8 128), .lit (.int .u8 143)], .agg [.lit (.int .u8 0), .lit (.int .u8 0)], .agg [.lit (.int .u8 0), .lit (.int .u8 0)], .agg [.lit (.int .u8 0), .lit (.int .u8 0)], .agg [.lit (.int .u8 0), .lit (.int .u8 0)], .agg [.lit (.int .u8 0), .lit (.int .u8 0)], .agg [.lit (.int .u8 0), .lit (.int .u8 0)], .agg [.lit (.int .u8 0), .lit (.int .u8 0)], .agg [.lit (.int .u8 0), .lit (.int .u8 0)], .agg [.lit (.int .u8 0), .lit (.int .u8 0)], .agg [.lit (.int .u8 0), .lit (.int .u8 0)], .agg [.lit (.int .u8 0), .lit (.int .u8 0)]]
/-- One of Go's own tables, pinned by name: the form's constant. -/
def laid_unicode_utf8_first : DataW Unit := Go.Pinned.utf8First

/-- 'glossarylaw02.PointsOf': WHATEVER THE INPUT: true; the input reads as it did. -/
def pointsOfSpec : ChangeSpec := { name := "pointsOf", fn := fun _ => fun
  | [d1, d2] => { results := [.lit (.bool true)], args := [d1, d2] }
  | _ => none }
def pointsOfRow : OpenClaim := { program := "ytbkimhbpcmbflaadoor", sum := "98abfa3905fb31da03bd0ced410e3db0a10a18d6f2aaf9b7c3a8c6b36d76c925", func := "glossary/glossarylaw02.PointsOf", spec := "pointsOf", inPlace := ["internal/reflectlite.ValueOf", "(internal/reflectlite.Value).Type", "(internal/reflectlite.Value).IsNil", "internal/reflectlite.TypeOf", "(internal/reflectlite.Value).Elem", "(internal/reflectlite.Value).Set"], unfollowed := true, recurses := true, named := ["errors.errorType"], apart := false, laid := [("errors.errorType", laid_errors_errorType)] }
def PointsOfSaid : Prop := pointsOfRow.holds Tryd.pinned (OpenSpec.ofChange pointsOfSpec)

/-- ITS FALSE NEIGHBOUR: 'it returns false'. Refute it at one input. -/
def pointsOfWrong : ChangeSpec := { name := "pointsOf", fn := fun _ => fun
  | [d1, d2] => { results := [.lit (.bool false)], args := [d1, d2] }
  | _ => none }
def PointsOfWrongFalsely : Prop := pointsOfRow.holds Tryd.pinned (OpenSpec.ofChange pointsOfWrong)

/-- 'glossarylaw02.PointsText': WHATEVER THE INPUT: true; the input reads as it did. -/
def pointsTextSpec : ChangeSpec := { name := "pointsText", fn := fun _ => fun
  | [d] => { results := [.lit (.bool true)], args := [d] }
  | _ => none }
def pointsTextRow : OpenClaim := { program := "ytbkimhbpcmbflaadoor", sum := "98abfa3905fb31da03bd0ced410e3db0a10a18d6f2aaf9b7c3a8c6b36d76c925", func := "glossary/glossarylaw02.PointsText", spec := "pointsText", inPlace := ["internal/reflectlite.ValueOf", "(internal/reflectlite.Value).Type", "(internal/reflectlite.Value).IsNil", "internal/reflectlite.TypeOf", "(internal/reflectlite.Value).Elem", "(internal/reflectlite.Value).Set"], unfollowed := true, recurses := true, named := ["errors.errorType"], apart := false, laid := [("errors.errorType", laid_errors_errorType)] }
def PointsTextSaid : Prop := pointsTextRow.holds Tryd.pinned (OpenSpec.ofChange pointsTextSpec)

/-- ITS FALSE NEIGHBOUR: 'it returns false'. Refute it at one input. -/
def pointsTextWrong : ChangeSpec := { name := "pointsText", fn := fun _ => fun
  | [d] => { results := [.lit (.bool false)], args := [d] }
  | _ => none }
def PointsTextWrongFalsely : Prop := pointsTextRow.holds Tryd.pinned (OpenSpec.ofChange pointsTextWrong)

/-- 'glossarylaw02.PointsBack': WHATEVER THE INPUT: true; the input reads as it did. -/
def pointsBackSpec : ChangeSpec := { name := "pointsBack", fn := fun _ => fun
  | [d] => { results := [.lit (.bool true)], args := [d] }
  | _ => none }
def pointsBackRow : OpenClaim := { program := "ytbkimhbpcmbflaadoor", sum := "98abfa3905fb31da03bd0ced410e3db0a10a18d6f2aaf9b7c3a8c6b36d76c925", func := "glossary/glossarylaw02.PointsBack", spec := "pointsBack", inPlace := ["internal/reflectlite.ValueOf", "(internal/reflectlite.Value).Type", "(internal/reflectlite.Value).IsNil", "internal/reflectlite.TypeOf", "(internal/reflectlite.Value).Elem", "(internal/reflectlite.Value).Set"], unfollowed := true, recurses := true, named := ["errors.errorType"], apart := false, laid := [("errors.errorType", laid_errors_errorType)] }
def PointsBackSaid : Prop := pointsBackRow.holds Tryd.pinned (OpenSpec.ofChange pointsBackSpec)

/-- ITS FALSE NEIGHBOUR: 'it returns false'. Refute it at one input. -/
def pointsBackWrong : ChangeSpec := { name := "pointsBack", fn := fun _ => fun
  | [d] => { results := [.lit (.bool false)], args := [d] }
  | _ => none }
def PointsBackWrongFalsely : Prop := pointsBackRow.holds Tryd.pinned (OpenSpec.ofChange pointsBackWrong)

/-- 'glossarylaw02.PointsRow': WHATEVER THE INPUT: true; the input reads as it did. -/
def pointsRowSpec : ChangeSpec := { name := "pointsRow", fn := fun _ => fun
  | [d] => { results := [.lit (.bool true)], args := [d] }
  | _ => none }
def pointsRowRow : OpenClaim := { program := "ytbkimhbpcmbflaadoor", sum := "98abfa3905fb31da03bd0ced410e3db0a10a18d6f2aaf9b7c3a8c6b36d76c925", func := "glossary/glossarylaw02.PointsRow", spec := "pointsRow", inPlace := ["internal/reflectlite.ValueOf", "(internal/reflectlite.Value).Type", "(internal/reflectlite.Value).IsNil", "internal/reflectlite.TypeOf", "(internal/reflectlite.Value).Elem", "(internal/reflectlite.Value).Set"], unfollowed := true, recurses := true, named := ["errors.errorType"], apart := false, laid := [("errors.errorType", laid_errors_errorType)] }
def PointsRowSaid : Prop := pointsRowRow.holds Tryd.pinned (OpenSpec.ofChange pointsRowSpec)

/-- ITS FALSE NEIGHBOUR: 'it returns false'. Refute it at one input. -/
def pointsRowWrong : ChangeSpec := { name := "pointsRow", fn := fun _ => fun
  | [d] => { results := [.lit (.bool false)], args := [d] }
  | _ => none }
def PointsRowWrongFalsely : Prop := pointsRowRow.holds Tryd.pinned (OpenSpec.ofChange pointsRowWrong)

/-- 'glossarylaw01.UtfFulls': WHATEVER THE INPUT: true; the input reads as it did. -/
def utfFullsSpec : ChangeSpec := { name := "utfFulls", fn := fun _ => fun
  | [d] => { results := [.lit (.bool true)], args := [d] }
  | _ => none }
def utfFullsRow : OpenClaim := { program := "ytbkimhbpcmbflaadoor", sum := "98abfa3905fb31da03bd0ced410e3db0a10a18d6f2aaf9b7c3a8c6b36d76c925", func := "glossary/glossarylaw01.UtfFulls", spec := "utfFulls", inPlace := ["internal/abi.NoEscape", "internal/bytealg.MakeNoZero"], unfollowed := true, recurses := true, named := ["unicode/utf8.first", "unicode/utf8.acceptRanges"], apart := false, laid := [("unicode/utf8.acceptRanges", laid_unicode_utf8_acceptRanges), ("unicode/utf8.first", laid_unicode_utf8_first)] }
def UtfFullsSaid : Prop := utfFullsRow.holds Tryd.pinned (OpenSpec.ofChange utfFullsSpec)

/-- ITS FALSE NEIGHBOUR: 'it returns false'. Refute it at one input. -/
def utfFullsWrong : ChangeSpec := { name := "utfFulls", fn := fun _ => fun
  | [d] => { results := [.lit (.bool false)], args := [d] }
  | _ => none }
def UtfFullsWrongFalsely : Prop := utfFullsRow.holds Tryd.pinned (OpenSpec.ofChange utfFullsWrong)

/-- 'glossarylaw01.UtfBads': WHATEVER THE INPUT: true; the input reads as it did. -/
def utfBadsSpec : ChangeSpec := { name := "utfBads", fn := fun _ => fun
  | [d1, d2] => { results := [.lit (.bool true)], args := [d1, d2] }
  | _ => none }
def utfBadsRow : OpenClaim := { program := "ytbkimhbpcmbflaadoor", sum := "98abfa3905fb31da03bd0ced410e3db0a10a18d6f2aaf9b7c3a8c6b36d76c925", func := "glossary/glossarylaw01.UtfBads", spec := "utfBads", inPlace := ["internal/abi.NoEscape", "internal/bytealg.MakeNoZero"], unfollowed := true, recurses := true, named := ["unicode/utf8.first", "unicode/utf8.acceptRanges"], apart := false, laid := [("unicode/utf8.acceptRanges", laid_unicode_utf8_acceptRanges), ("unicode/utf8.first", laid_unicode_utf8_first)] }
def UtfBadsSaid : Prop := utfBadsRow.holds Tryd.pinned (OpenSpec.ofChange utfBadsSpec)

/-- ITS FALSE NEIGHBOUR: 'it returns false'. Refute it at one input. -/
def utfBadsWrong : ChangeSpec := { name := "utfBads", fn := fun _ => fun
  | [d1, d2] => { results := [.lit (.bool false)], args := [d1, d2] }
  | _ => none }
def UtfBadsWrongFalsely : Prop := utfBadsRow.holds Tryd.pinned (OpenSpec.ofChange utfBadsWrong)

/-- 'glossarylaw01.UtfMends': WHATEVER THE INPUT: true; the input reads as it did. -/
def utfMendsSpec : ChangeSpec := { name := "utfMends", fn := fun _ => fun
  | [d1, d2] => { results := [.lit (.bool true)], args := [d1, d2] }
  | _ => none }
def utfMendsRow : OpenClaim := { program := "ytbkimhbpcmbflaadoor", sum := "98abfa3905fb31da03bd0ced410e3db0a10a18d6f2aaf9b7c3a8c6b36d76c925", func := "glossary/glossarylaw01.UtfMends", spec := "utfMends", inPlace := ["internal/abi.NoEscape", "internal/bytealg.MakeNoZero"], unfollowed := true, recurses := true, named := ["unicode/utf8.first", "unicode/utf8.acceptRanges"], apart := false, laid := [("unicode/utf8.acceptRanges", laid_unicode_utf8_acceptRanges), ("unicode/utf8.first", laid_unicode_utf8_first)] }
def UtfMendsSaid : Prop := utfMendsRow.holds Tryd.pinned (OpenSpec.ofChange utfMendsSpec)

/-- ITS FALSE NEIGHBOUR: 'it returns false'. Refute it at one input. -/
def utfMendsWrong : ChangeSpec := { name := "utfMends", fn := fun _ => fun
  | [d1, d2] => { results := [.lit (.bool false)], args := [d1, d2] }
  | _ => none }
def UtfMendsWrongFalsely : Prop := utfMendsRow.holds Tryd.pinned (OpenSpec.ofChange utfMendsWrong)

/-- 'glossarylaw01.UtfCuts': WHATEVER THE INPUT: true; the input reads as it did. -/
def utfCutsSpec : ChangeSpec := { name := "utfCuts", fn := fun _ => fun
  | [d] => { results := [.lit (.bool true)], args := [d] }
  | _ => none }
def utfCutsRow : OpenClaim := { program := "ytbkimhbpcmbflaadoor", sum := "98abfa3905fb31da03bd0ced410e3db0a10a18d6f2aaf9b7c3a8c6b36d76c925", func := "glossary/glossarylaw01.UtfCuts", spec := "utfCuts", inPlace := ["internal/abi.NoEscape", "internal/bytealg.MakeNoZero"], unfollowed := true, recurses := true, named := ["unicode/utf8.first", "unicode/utf8.acceptRanges"], apart := false, laid := [("unicode/utf8.acceptRanges", laid_unicode_utf8_acceptRanges), ("unicode/utf8.first", laid_unicode_utf8_first)] }
def UtfCutsSaid : Prop := utfCutsRow.holds Tryd.pinned (OpenSpec.ofChange utfCutsSpec)

/-- ITS FALSE NEIGHBOUR: 'it returns false'. Refute it at one input. -/
def utfCutsWrong : ChangeSpec := { name := "utfCuts", fn := fun _ => fun
  | [d] => { results := [.lit (.bool false)], args := [d] }
  | _ => none }
def UtfCutsWrongFalsely : Prop := utfCutsRow.holds Tryd.pinned (OpenSpec.ofChange utfCutsWrong)

/-- 'glossarylaw01.UtfEncodes': WHATEVER THE INPUT: true; the input reads as it did. -/
def utfEncodesSpec : ChangeSpec := { name := "utfEncodes", fn := fun _ => fun
  | [d1, d2] => { results := [.lit (.bool true)], args := [d1, d2] }
  | _ => none }
def utfEncodesRow : OpenClaim := { program := "ytbkimhbpcmbflaadoor", sum := "98abfa3905fb31da03bd0ced410e3db0a10a18d6f2aaf9b7c3a8c6b36d76c925", func := "glossary/glossarylaw01.UtfEncodes", spec := "utfEncodes", inPlace := ["internal/abi.NoEscape", "internal/bytealg.MakeNoZero"], unfollowed := true, recurses := true, named := ["unicode/utf8.first", "unicode/utf8.acceptRanges"], apart := false, laid := [("unicode/utf8.acceptRanges", laid_unicode_utf8_acceptRanges), ("unicode/utf8.first", laid_unicode_utf8_first)] }
def UtfEncodesSaid : Prop := utfEncodesRow.holds Tryd.pinned (OpenSpec.ofChange utfEncodesSpec)

/-- ITS FALSE NEIGHBOUR: 'it returns false'. Refute it at one input. -/
def utfEncodesWrong : ChangeSpec := { name := "utfEncodes", fn := fun _ => fun
  | [d1, d2] => { results := [.lit (.bool false)], args := [d1, d2] }
  | _ => none }
def UtfEncodesWrongFalsely : Prop := utfEncodesRow.holds Tryd.pinned (OpenSpec.ofChange utfEncodesWrong)

/-- 'glossarylaw02.PointsNext': WHATEVER THE INPUT: true; the input reads as it did. -/
def pointsNextSpec : ChangeSpec := { name := "pointsNext", fn := fun _ => fun
  | [d1, d2] => { results := [.lit (.bool true)], args := [d1, d2] }
  | _ => none }
def pointsNextRow : OpenClaim := { program := "ytbkimhbpcmbflaadoor", sum := "98abfa3905fb31da03bd0ced410e3db0a10a18d6f2aaf9b7c3a8c6b36d76c925", func := "glossary/glossarylaw02.PointsNext", spec := "pointsNext", inPlace := ["internal/reflectlite.ValueOf", "(internal/reflectlite.Value).Type", "(internal/reflectlite.Value).IsNil", "internal/reflectlite.TypeOf", "(internal/reflectlite.Value).Elem", "(internal/reflectlite.Value).Set"], unfollowed := true, recurses := true, named := ["unicode/utf8.first", "unicode/utf8.acceptRanges", "errors.errorType"], apart := false, laid := [("unicode/utf8.acceptRanges", laid_unicode_utf8_acceptRanges), ("errors.errorType", laid_errors_errorType), ("unicode/utf8.first", laid_unicode_utf8_first)] }
def PointsNextSaid : Prop := pointsNextRow.holds Tryd.pinned (OpenSpec.ofChange pointsNextSpec)

/-- ITS FALSE NEIGHBOUR: 'it returns false'. Refute it at one input. -/
def pointsNextWrong : ChangeSpec := { name := "pointsNext", fn := fun _ => fun
  | [d1, d2] => { results := [.lit (.bool false)], args := [d1, d2] }
  | _ => none }
def PointsNextWrongFalsely : Prop := pointsNextRow.holds Tryd.pinned (OpenSpec.ofChange pointsNextWrong)

/-- 'glossarylaw02.PointsOrder': WHATEVER THE INPUT: true; the input reads as it did. -/
def pointsOrderSpec : ChangeSpec := { name := "pointsOrder", fn := fun _ => fun
  | [d1, d2] => { results := [.lit (.bool true)], args := [d1, d2] }
  | _ => none }
def pointsOrderRow : OpenClaim := { program := "ytbkimhbpcmbflaadoor", sum := "98abfa3905fb31da03bd0ced410e3db0a10a18d6f2aaf9b7c3a8c6b36d76c925", func := "glossary/glossarylaw02.PointsOrder", spec := "pointsOrder", inPlace := ["internal/reflectlite.ValueOf", "(internal/reflectlite.Value).Type", "(internal/reflectlite.Value).IsNil", "internal/reflectlite.TypeOf", "(internal/reflectlite.Value).Elem", "(internal/reflectlite.Value).Set"], unfollowed := true, recurses := true, named := ["unicode/utf8.first", "unicode/utf8.acceptRanges", "errors.errorType"], apart := false, laid := [("unicode/utf8.acceptRanges", laid_unicode_utf8_acceptRanges), ("errors.errorType", laid_errors_errorType), ("unicode/utf8.first", laid_unicode_utf8_first)] }
def PointsOrderSaid : Prop := pointsOrderRow.holds Tryd.pinned (OpenSpec.ofChange pointsOrderSpec)

/-- ITS FALSE NEIGHBOUR: 'it returns false'. Refute it at one input. -/
def pointsOrderWrong : ChangeSpec := { name := "pointsOrder", fn := fun _ => fun
  | [d1, d2] => { results := [.lit (.bool false)], args := [d1, d2] }
  | _ => none }
def PointsOrderWrongFalsely : Prop := pointsOrderRow.holds Tryd.pinned (OpenSpec.ofChange pointsOrderWrong)

/-- 'glossarylaw02.PointsRange': WHATEVER THE INPUT: true; the input reads as it did. -/
def pointsRangeSpec : ChangeSpec := { name := "pointsRange", fn := fun _ => fun
  | [d] => { results := [.lit (.bool true)], args := [d] }
  | _ => none }
def pointsRangeRow : OpenClaim := { program := "ytbkimhbpcmbflaadoor", sum := "98abfa3905fb31da03bd0ced410e3db0a10a18d6f2aaf9b7c3a8c6b36d76c925", func := "glossary/glossarylaw02.PointsRange", spec := "pointsRange", inPlace := ["internal/reflectlite.ValueOf", "(internal/reflectlite.Value).Type", "(internal/reflectlite.Value).IsNil", "internal/reflectlite.TypeOf", "(internal/reflectlite.Value).Elem", "(internal/reflectlite.Value).Set"], unfollowed := true, recurses := true, named := ["unicode/utf8.first", "unicode/utf8.acceptRanges", "errors.errorType"], apart := false, laid := [("unicode/utf8.acceptRanges", laid_unicode_utf8_acceptRanges), ("errors.errorType", laid_errors_errorType), ("unicode/utf8.first", laid_unicode_utf8_first)] }
def PointsRangeSaid : Prop := pointsRangeRow.holds Tryd.pinned (OpenSpec.ofChange pointsRangeSpec)

/-- ITS FALSE NEIGHBOUR: 'it returns false'. Refute it at one input. -/
def pointsRangeWrong : ChangeSpec := { name := "pointsRange", fn := fun _ => fun
  | [d] => { results := [.lit (.bool false)], args := [d] }
  | _ => none }
def PointsRangeWrongFalsely : Prop := pointsRangeRow.holds Tryd.pinned (OpenSpec.ofChange pointsRangeWrong)

/-- 'glossarylaw01.UtfUnits': WHATEVER THE INPUT: true; the input reads as it did. -/
def utfUnitsSpec : ChangeSpec := { name := "utfUnits", fn := fun _ => fun
  | [d1, d2] => { results := [.lit (.bool true)], args := [d1, d2] }
  | _ => none }
def utfUnitsRow : OpenClaim := { program := "ytbkimhbpcmbflaadoor", sum := "98abfa3905fb31da03bd0ced410e3db0a10a18d6f2aaf9b7c3a8c6b36d76c925", func := "glossary/glossarylaw01.UtfUnits", spec := "utfUnits", inPlace := ["internal/abi.NoEscape", "internal/bytealg.MakeNoZero"], unfollowed := true, recurses := true, named := ["unicode/utf8.first", "unicode/utf8.acceptRanges"], apart := false, laid := [("unicode/utf8.acceptRanges", laid_unicode_utf8_acceptRanges), ("unicode/utf8.first", laid_unicode_utf8_first)] }
def UtfUnitsSaid : Prop := utfUnitsRow.holds Tryd.pinned (OpenSpec.ofChange utfUnitsSpec)

/-- ITS FALSE NEIGHBOUR: 'it returns false'. Refute it at one input. -/
def utfUnitsWrong : ChangeSpec := { name := "utfUnits", fn := fun _ => fun
  | [d1, d2] => { results := [.lit (.bool false)], args := [d1, d2] }
  | _ => none }
def UtfUnitsWrongFalsely : Prop := utfUnitsRow.holds Tryd.pinned (OpenSpec.ofChange utfUnitsWrong)

/-- 'glossarylaw01.UtfWalks': WHATEVER THE INPUT: true; the input reads as it did. -/
def utfWalksSpec : ChangeSpec := { name := "utfWalks", fn := fun _ => fun
  | [d1, d2] => { results := [.lit (.bool true)], args := [d1, d2] }
  | _ => none }
def utfWalksRow : OpenClaim := { program := "ytbkimhbpcmbflaadoor", sum := "98abfa3905fb31da03bd0ced410e3db0a10a18d6f2aaf9b7c3a8c6b36d76c925", func := "glossary/glossarylaw01.UtfWalks", spec := "utfWalks", inPlace := ["internal/abi.NoEscape", "internal/bytealg.MakeNoZero"], unfollowed := true, recurses := true, named := ["unicode/utf8.first", "unicode/utf8.acceptRanges"], apart := false, laid := [("unicode/utf8.acceptRanges", laid_unicode_utf8_acceptRanges), ("unicode/utf8.first", laid_unicode_utf8_first)] }
def UtfWalksSaid : Prop := utfWalksRow.holds Tryd.pinned (OpenSpec.ofChange utfWalksSpec)

/-- ITS FALSE NEIGHBOUR: 'it returns false'. Refute it at one input. -/
def utfWalksWrong : ChangeSpec := { name := "utfWalks", fn := fun _ => fun
  | [d1, d2] => { results := [.lit (.bool false)], args := [d1, d2] }
  | _ => none }
def UtfWalksWrongFalsely : Prop := utfWalksRow.holds Tryd.pinned (OpenSpec.ofChange utfWalksWrong)

/-- 'glossarylaw02.PointsMutual': WHATEVER THE INPUT: true; the input reads as it did. -/
def pointsMutualSpec : ChangeSpec := { name := "pointsMutual", fn := fun _ => fun
  | [d] => { results := [.lit (.bool true)], args := [d] }
  | _ => none }
def pointsMutualRow : OpenClaim := { program := "ytbkimhbpcmbflaadoor", sum := "98abfa3905fb31da03bd0ced410e3db0a10a18d6f2aaf9b7c3a8c6b36d76c925", func := "glossary/glossarylaw02.PointsMutual", spec := "pointsMutual", inPlace := ["internal/reflectlite.ValueOf", "(internal/reflectlite.Value).Type", "(internal/reflectlite.Value).IsNil", "internal/reflectlite.TypeOf", "(internal/reflectlite.Value).Elem", "(internal/reflectlite.Value).Set"], unfollowed := true, recurses := true, named := ["unicode/utf8.first", "unicode/utf8.acceptRanges", "errors.errorType"], apart := false, laid := [("unicode/utf8.acceptRanges", laid_unicode_utf8_acceptRanges), ("errors.errorType", laid_errors_errorType), ("unicode/utf8.first", laid_unicode_utf8_first)] }
def PointsMutualSaid : Prop := pointsMutualRow.holds Tryd.pinned (OpenSpec.ofChange pointsMutualSpec)

/-- ITS FALSE NEIGHBOUR: 'it returns false'. Refute it at one input. -/
def pointsMutualWrong : ChangeSpec := { name := "pointsMutual", fn := fun _ => fun
  | [d] => { results := [.lit (.bool false)], args := [d] }
  | _ => none }
def PointsMutualWrongFalsely : Prop := pointsMutualRow.holds Tryd.pinned (OpenSpec.ofChange pointsMutualWrong)

/-- 'glossarylaw02.PointsPlaces': WHATEVER THE INPUT: true; the input reads as it did. -/
def pointsPlacesSpec : ChangeSpec := { name := "pointsPlaces", fn := fun _ => fun
  | [d1, d2, d3] => { results := [.lit (.bool true)], args := [d1, d2, d3] }
  | _ => none }
def pointsPlacesRow : OpenClaim := { program := "ytbkimhbpcmbflaadoor", sum := "98abfa3905fb31da03bd0ced410e3db0a10a18d6f2aaf9b7c3a8c6b36d76c925", func := "glossary/glossarylaw02.PointsPlaces", spec := "pointsPlaces", inPlace := ["internal/reflectlite.ValueOf", "(internal/reflectlite.Value).Type", "(internal/reflectlite.Value).IsNil", "internal/reflectlite.TypeOf", "(internal/reflectlite.Value).Elem", "(internal/reflectlite.Value).Set"], unfollowed := true, recurses := true, named := ["unicode/utf8.first", "unicode/utf8.acceptRanges", "errors.errorType"], apart := false, laid := [("unicode/utf8.acceptRanges", laid_unicode_utf8_acceptRanges), ("errors.errorType", laid_errors_errorType), ("unicode/utf8.first", laid_unicode_utf8_first)] }
def PointsPlacesSaid : Prop := pointsPlacesRow.holds Tryd.pinned (OpenSpec.ofChange pointsPlacesSpec)

/-- ITS FALSE NEIGHBOUR: 'it returns false'. Refute it at one input. -/
def pointsPlacesWrong : ChangeSpec := { name := "pointsPlaces", fn := fun _ => fun
  | [d1, d2, d3] => { results := [.lit (.bool false)], args := [d1, d2, d3] }
  | _ => none }
def PointsPlacesWrongFalsely : Prop := pointsPlacesRow.holds Tryd.pinned (OpenSpec.ofChange pointsPlacesWrong)

/-- 'glossarylaw02.PointsKnown': WHATEVER THE INPUT: true; the input reads as it did. -/
def pointsKnownSpec : ChangeSpec := { name := "pointsKnown", fn := fun _ => fun
  | [] => { results := [.lit (.bool true)], args := [] }
  | _ => none }
def pointsKnownRow : OpenClaim := { program := "ytbkimhbpcmbflaadoor", sum := "98abfa3905fb31da03bd0ced410e3db0a10a18d6f2aaf9b7c3a8c6b36d76c925", func := "glossary/glossarylaw02.PointsKnown", spec := "pointsKnown", inPlace := ["internal/reflectlite.ValueOf", "(internal/reflectlite.Value).Type", "(internal/reflectlite.Value).IsNil", "internal/reflectlite.TypeOf", "(internal/reflectlite.Value).Elem", "(internal/reflectlite.Value).Set"], unfollowed := true, recurses := true, named := ["errors.errorType", "unicode/utf8.first", "unicode/utf8.acceptRanges"], apart := false, laid := [("unicode/utf8.acceptRanges", laid_unicode_utf8_acceptRanges), ("errors.errorType", laid_errors_errorType), ("unicode/utf8.first", laid_unicode_utf8_first)] }
def PointsKnownSaid : Prop := pointsKnownRow.holds Tryd.pinned (OpenSpec.ofChange pointsKnownSpec)

/-- ITS FALSE NEIGHBOUR: 'it returns false'. Refute it at one input. -/
def pointsKnownWrong : ChangeSpec := { name := "pointsKnown", fn := fun _ => fun
  | [] => { results := [.lit (.bool false)], args := [] }
  | _ => none }
def PointsKnownWrongFalsely : Prop := pointsKnownRow.holds Tryd.pinned (OpenSpec.ofChange pointsKnownWrong)

/-- 'glossarylaw01.UtfMended': WHATEVER THE INPUT: true; the input reads as it did. -/
def utfMendedSpec : ChangeSpec := { name := "utfMended", fn := fun _ => fun
  | [d1, d2] => { results := [.lit (.bool true)], args := [d1, d2] }
  | _ => none }
def utfMendedRow : OpenClaim := { program := "ytbkimhbpcmbflaadoor", sum := "98abfa3905fb31da03bd0ced410e3db0a10a18d6f2aaf9b7c3a8c6b36d76c925", func := "glossary/glossarylaw01.UtfMended", spec := "utfMended", inPlace := ["internal/abi.NoEscape", "internal/bytealg.MakeNoZero"], unfollowed := true, recurses := true, named := ["unicode/utf8.first", "unicode/utf8.acceptRanges"], apart := false, laid := [("unicode/utf8.acceptRanges", laid_unicode_utf8_acceptRanges), ("unicode/utf8.first", laid_unicode_utf8_first)] }
def UtfMendedSaid : Prop := utfMendedRow.holds Tryd.pinned (OpenSpec.ofChange utfMendedSpec)

/-- ITS FALSE NEIGHBOUR: 'it returns false'. Refute it at one input. -/
def utfMendedWrong : ChangeSpec := { name := "utfMended", fn := fun _ => fun
  | [d1, d2] => { results := [.lit (.bool false)], args := [d1, d2] }
  | _ => none }
def UtfMendedWrongFalsely : Prop := utfMendedRow.holds Tryd.pinned (OpenSpec.ofChange utfMendedWrong)

/-- 'glossarylaw01.UtfRange': WHATEVER THE INPUT: true; the input reads as it did. -/
def utfRangeSpec : ChangeSpec := { name := "utfRange", fn := fun _ => fun
  | [d] => { results := [.lit (.bool true)], args := [d] }
  | _ => none }
def utfRangeRow : OpenClaim := { program := "ytbkimhbpcmbflaadoor", sum := "98abfa3905fb31da03bd0ced410e3db0a10a18d6f2aaf9b7c3a8c6b36d76c925", func := "glossary/glossarylaw01.UtfRange", spec := "utfRange", inPlace := ["internal/abi.NoEscape", "internal/bytealg.MakeNoZero"], unfollowed := true, recurses := true, named := ["unicode/utf8.first", "unicode/utf8.acceptRanges"], apart := false, laid := [("unicode/utf8.acceptRanges", laid_unicode_utf8_acceptRanges), ("unicode/utf8.first", laid_unicode_utf8_first)] }
def UtfRangeSaid : Prop := utfRangeRow.holds Tryd.pinned (OpenSpec.ofChange utfRangeSpec)

/-- ITS FALSE NEIGHBOUR: 'it returns false'. Refute it at one input. -/
def utfRangeWrong : ChangeSpec := { name := "utfRange", fn := fun _ => fun
  | [d] => { results := [.lit (.bool false)], args := [d] }
  | _ => none }
def UtfRangeWrongFalsely : Prop := utfRangeRow.holds Tryd.pinned (OpenSpec.ofChange utfRangeWrong)

/-- 'glossarylaw01.UtfKnown': WHATEVER THE INPUT: true; the input reads as it did. -/
def utfKnownSpec : ChangeSpec := { name := "utfKnown", fn := fun _ => fun
  | [] => { results := [.lit (.bool true)], args := [] }
  | _ => none }
def utfKnownRow : OpenClaim := { program := "ytbkimhbpcmbflaadoor", sum := "98abfa3905fb31da03bd0ced410e3db0a10a18d6f2aaf9b7c3a8c6b36d76c925", func := "glossary/glossarylaw01.UtfKnown", spec := "utfKnown", inPlace := ["internal/abi.NoEscape", "internal/bytealg.MakeNoZero"], unfollowed := true, recurses := true, named := ["unicode/utf8.first", "unicode/utf8.acceptRanges"], apart := false, laid := [("unicode/utf8.acceptRanges", laid_unicode_utf8_acceptRanges), ("unicode/utf8.first", laid_unicode_utf8_first)] }
def UtfKnownSaid : Prop := utfKnownRow.holds Tryd.pinned (OpenSpec.ofChange utfKnownSpec)

/-- ITS FALSE NEIGHBOUR: 'it returns false'. Refute it at one input. -/
def utfKnownWrong : ChangeSpec := { name := "utfKnown", fn := fun _ => fun
  | [] => { results := [.lit (.bool false)], args := [] }
  | _ => none }
def UtfKnownWrongFalsely : Prop := utfKnownRow.holds Tryd.pinned (OpenSpec.ofChange utfKnownWrong)

/-- 'glossarylaw01.UtfSides': WHATEVER THE INPUT: true; the input reads as it did. -/
def utfSidesSpec : ChangeSpec := { name := "utfSides", fn := fun _ => fun
  | [d1, d2] => { results := [.lit (.bool true)], args := [d1, d2] }
  | _ => none }
def utfSidesRow : OpenClaim := { program := "ytbkimhbpcmbflaadoor", sum := "98abfa3905fb31da03bd0ced410e3db0a10a18d6f2aaf9b7c3a8c6b36d76c925", func := "glossary/glossarylaw01.UtfSides", spec := "utfSides", inPlace := ["internal/abi.NoEscape", "internal/bytealg.MakeNoZero"], unfollowed := true, recurses := true, named := ["unicode/utf8.first", "unicode/utf8.acceptRanges"], apart := false, laid := [("unicode/utf8.acceptRanges", laid_unicode_utf8_acceptRanges), ("unicode/utf8.first", laid_unicode_utf8_first)] }
def UtfSidesSaid : Prop := utfSidesRow.holds Tryd.pinned (OpenSpec.ofChange utfSidesSpec)

/-- ITS FALSE NEIGHBOUR: 'it returns false'. Refute it at one input. -/
def utfSidesWrong : ChangeSpec := { name := "utfSides", fn := fun _ => fun
  | [d1, d2] => { results := [.lit (.bool false)], args := [d1, d2] }
  | _ => none }
def UtfSidesWrongFalsely : Prop := utfSidesRow.holds Tryd.pinned (OpenSpec.ofChange utfSidesWrong)

/- THE SECOND FORM. 'bulk': how many values and letters a reading holds, each counted each time it is reached (what is shared counts as often as it is met; a slice's spare places count too). A statement '..UptoSaid' is the law's where the arguments, and the package variables that the reading takes, are together of bulk at most 1048576: NARROWER than '..Said'. Prove '..Said' where nothing that the law and all that it calls make is longer than what came in: it says more and counts as full. Else prove '..UptoSaid'. A law counts once. -/
mutual
def uptoBulk {H : Type} : DataW H → Nat
  | .lit (.string bytes) => bytes.length + 1
  | .lit _ => 1
  | .nil => 1
  | .ptr d => uptoBulk d + 1
  | .slice elems spare => uptoBulkAll elems + uptoBulkAll spare + 1
  | .agg parts => uptoBulkAll parts + 1
  | .iface _ d => uptoBulk d + 1
  | .map entries => uptoBulkEntries entries + 1
  | .held _ => 1
def uptoBulkAll {H : Type} : List (DataW H) → Nat
  | [] => 0
  | d :: r => uptoBulk d + uptoBulkAll r
def uptoBulkEntries {H : Type} : List (Lit × DataW H) → Nat
  | [] => 0
  | x :: r => uptoBulkEntry x + uptoBulkEntries r
def uptoBulkEntry {H : Type} : Lit × DataW H → Nat
  | (.string bytes, d) => bytes.length + uptoBulk d + 1
  | (_, d) => uptoBulk d + 1
 end
def uptoSmall : (H : Type) → List (DataW H) → Bool := fun _ ds => decide (uptoBulkAll ds ≤ 1048576)
def OpenSpec.upto (s : _root_.Go.ChangeSpec) : _root_.Go.OpenSpec := { _root_.Go.OpenSpec.ofChange s with cond := some uptoSmall }

/-- 'glossarylaw02.PointsOf', WHERE WHAT IT READS IS OF BULK AT MOST 1048576: true; the input reads as it did. -/
def pointsOfUptoRow : OpenClaim := { program := "ytbkimhbpcmbflaadoor", sum := "98abfa3905fb31da03bd0ced410e3db0a10a18d6f2aaf9b7c3a8c6b36d76c925", func := "glossary/glossarylaw02.PointsOf", spec := "pointsOf", inPlace := ["internal/reflectlite.ValueOf", "(internal/reflectlite.Value).Type", "(internal/reflectlite.Value).IsNil", "internal/reflectlite.TypeOf", "(internal/reflectlite.Value).Elem", "(internal/reflectlite.Value).Set"], unfollowed := true, recurses := true, named := ["errors.errorType"], apart := false, laid := [("errors.errorType", laid_errors_errorType)], narrowed := true }
def PointsOfUptoSaid : Prop := pointsOfUptoRow.holds Tryd.pinned (OpenSpec.upto pointsOfSpec)

/-- 'glossarylaw02.PointsText', WHERE WHAT IT READS IS OF BULK AT MOST 1048576: true; the input reads as it did. -/
def pointsTextUptoRow : OpenClaim := { program := "ytbkimhbpcmbflaadoor", sum := "98abfa3905fb31da03bd0ced410e3db0a10a18d6f2aaf9b7c3a8c6b36d76c925", func := "glossary/glossarylaw02.PointsText", spec := "pointsText", inPlace := ["internal/reflectlite.ValueOf", "(internal/reflectlite.Value).Type", "(internal/reflectlite.Value).IsNil", "internal/reflectlite.TypeOf", "(internal/reflectlite.Value).Elem", "(internal/reflectlite.Value).Set"], unfollowed := true, recurses := true, named := ["errors.errorType"], apart := false, laid := [("errors.errorType", laid_errors_errorType)], narrowed := true }
def PointsTextUptoSaid : Prop := pointsTextUptoRow.holds Tryd.pinned (OpenSpec.upto pointsTextSpec)

/-- 'glossarylaw02.PointsBack', WHERE WHAT IT READS IS OF BULK AT MOST 1048576: true; the input reads as it did. -/
def pointsBackUptoRow : OpenClaim := { program := "ytbkimhbpcmbflaadoor", sum := "98abfa3905fb31da03bd0ced410e3db0a10a18d6f2aaf9b7c3a8c6b36d76c925", func := "glossary/glossarylaw02.PointsBack", spec := "pointsBack", inPlace := ["internal/reflectlite.ValueOf", "(internal/reflectlite.Value).Type", "(internal/reflectlite.Value).IsNil", "internal/reflectlite.TypeOf", "(internal/reflectlite.Value).Elem", "(internal/reflectlite.Value).Set"], unfollowed := true, recurses := true, named := ["errors.errorType"], apart := false, laid := [("errors.errorType", laid_errors_errorType)], narrowed := true }
def PointsBackUptoSaid : Prop := pointsBackUptoRow.holds Tryd.pinned (OpenSpec.upto pointsBackSpec)

/-- 'glossarylaw02.PointsRow', WHERE WHAT IT READS IS OF BULK AT MOST 1048576: true; the input reads as it did. -/
def pointsRowUptoRow : OpenClaim := { program := "ytbkimhbpcmbflaadoor", sum := "98abfa3905fb31da03bd0ced410e3db0a10a18d6f2aaf9b7c3a8c6b36d76c925", func := "glossary/glossarylaw02.PointsRow", spec := "pointsRow", inPlace := ["internal/reflectlite.ValueOf", "(internal/reflectlite.Value).Type", "(internal/reflectlite.Value).IsNil", "internal/reflectlite.TypeOf", "(internal/reflectlite.Value).Elem", "(internal/reflectlite.Value).Set"], unfollowed := true, recurses := true, named := ["errors.errorType"], apart := false, laid := [("errors.errorType", laid_errors_errorType)], narrowed := true }
def PointsRowUptoSaid : Prop := pointsRowUptoRow.holds Tryd.pinned (OpenSpec.upto pointsRowSpec)

/-- 'glossarylaw01.UtfFulls', WHERE WHAT IT READS IS OF BULK AT MOST 1048576: true; the input reads as it did. -/
def utfFullsUptoRow : OpenClaim := { program := "ytbkimhbpcmbflaadoor", sum := "98abfa3905fb31da03bd0ced410e3db0a10a18d6f2aaf9b7c3a8c6b36d76c925", func := "glossary/glossarylaw01.UtfFulls", spec := "utfFulls", inPlace := ["internal/abi.NoEscape", "internal/bytealg.MakeNoZero"], unfollowed := true, recurses := true, named := ["unicode/utf8.first", "unicode/utf8.acceptRanges"], apart := false, laid := [("unicode/utf8.acceptRanges", laid_unicode_utf8_acceptRanges), ("unicode/utf8.first", laid_unicode_utf8_first)], narrowed := true }
def UtfFullsUptoSaid : Prop := utfFullsUptoRow.holds Tryd.pinned (OpenSpec.upto utfFullsSpec)

/-- 'glossarylaw01.UtfBads', WHERE WHAT IT READS IS OF BULK AT MOST 1048576: true; the input reads as it did. -/
def utfBadsUptoRow : OpenClaim := { program := "ytbkimhbpcmbflaadoor", sum := "98abfa3905fb31da03bd0ced410e3db0a10a18d6f2aaf9b7c3a8c6b36d76c925", func := "glossary/glossarylaw01.UtfBads", spec := "utfBads", inPlace := ["internal/abi.NoEscape", "internal/bytealg.MakeNoZero"], unfollowed := true, recurses := true, named := ["unicode/utf8.first", "unicode/utf8.acceptRanges"], apart := false, laid := [("unicode/utf8.acceptRanges", laid_unicode_utf8_acceptRanges), ("unicode/utf8.first", laid_unicode_utf8_first)], narrowed := true }
def UtfBadsUptoSaid : Prop := utfBadsUptoRow.holds Tryd.pinned (OpenSpec.upto utfBadsSpec)

/-- 'glossarylaw01.UtfMends', WHERE WHAT IT READS IS OF BULK AT MOST 1048576: true; the input reads as it did. -/
def utfMendsUptoRow : OpenClaim := { program := "ytbkimhbpcmbflaadoor", sum := "98abfa3905fb31da03bd0ced410e3db0a10a18d6f2aaf9b7c3a8c6b36d76c925", func := "glossary/glossarylaw01.UtfMends", spec := "utfMends", inPlace := ["internal/abi.NoEscape", "internal/bytealg.MakeNoZero"], unfollowed := true, recurses := true, named := ["unicode/utf8.first", "unicode/utf8.acceptRanges"], apart := false, laid := [("unicode/utf8.acceptRanges", laid_unicode_utf8_acceptRanges), ("unicode/utf8.first", laid_unicode_utf8_first)], narrowed := true }
def UtfMendsUptoSaid : Prop := utfMendsUptoRow.holds Tryd.pinned (OpenSpec.upto utfMendsSpec)

/-- 'glossarylaw01.UtfCuts', WHERE WHAT IT READS IS OF BULK AT MOST 1048576: true; the input reads as it did. -/
def utfCutsUptoRow : OpenClaim := { program := "ytbkimhbpcmbflaadoor", sum := "98abfa3905fb31da03bd0ced410e3db0a10a18d6f2aaf9b7c3a8c6b36d76c925", func := "glossary/glossarylaw01.UtfCuts", spec := "utfCuts", inPlace := ["internal/abi.NoEscape", "internal/bytealg.MakeNoZero"], unfollowed := true, recurses := true, named := ["unicode/utf8.first", "unicode/utf8.acceptRanges"], apart := false, laid := [("unicode/utf8.acceptRanges", laid_unicode_utf8_acceptRanges), ("unicode/utf8.first", laid_unicode_utf8_first)], narrowed := true }
def UtfCutsUptoSaid : Prop := utfCutsUptoRow.holds Tryd.pinned (OpenSpec.upto utfCutsSpec)

/-- 'glossarylaw01.UtfEncodes', WHERE WHAT IT READS IS OF BULK AT MOST 1048576: true; the input reads as it did. -/
def utfEncodesUptoRow : OpenClaim := { program := "ytbkimhbpcmbflaadoor", sum := "98abfa3905fb31da03bd0ced410e3db0a10a18d6f2aaf9b7c3a8c6b36d76c925", func := "glossary/glossarylaw01.UtfEncodes", spec := "utfEncodes", inPlace := ["internal/abi.NoEscape", "internal/bytealg.MakeNoZero"], unfollowed := true, recurses := true, named := ["unicode/utf8.first", "unicode/utf8.acceptRanges"], apart := false, laid := [("unicode/utf8.acceptRanges", laid_unicode_utf8_acceptRanges), ("unicode/utf8.first", laid_unicode_utf8_first)], narrowed := true }
def UtfEncodesUptoSaid : Prop := utfEncodesUptoRow.holds Tryd.pinned (OpenSpec.upto utfEncodesSpec)

/-- 'glossarylaw02.PointsNext', WHERE WHAT IT READS IS OF BULK AT MOST 1048576: true; the input reads as it did. -/
def pointsNextUptoRow : OpenClaim := { program := "ytbkimhbpcmbflaadoor", sum := "98abfa3905fb31da03bd0ced410e3db0a10a18d6f2aaf9b7c3a8c6b36d76c925", func := "glossary/glossarylaw02.PointsNext", spec := "pointsNext", inPlace := ["internal/reflectlite.ValueOf", "(internal/reflectlite.Value).Type", "(internal/reflectlite.Value).IsNil", "internal/reflectlite.TypeOf", "(internal/reflectlite.Value).Elem", "(internal/reflectlite.Value).Set"], unfollowed := true, recurses := true, named := ["unicode/utf8.first", "unicode/utf8.acceptRanges", "errors.errorType"], apart := false, laid := [("unicode/utf8.acceptRanges", laid_unicode_utf8_acceptRanges), ("errors.errorType", laid_errors_errorType), ("unicode/utf8.first", laid_unicode_utf8_first)], narrowed := true }
def PointsNextUptoSaid : Prop := pointsNextUptoRow.holds Tryd.pinned (OpenSpec.upto pointsNextSpec)

/-- 'glossarylaw02.PointsOrder', WHERE WHAT IT READS IS OF BULK AT MOST 1048576: true; the input reads as it did. -/
def pointsOrderUptoRow : OpenClaim := { program := "ytbkimhbpcmbflaadoor", sum := "98abfa3905fb31da03bd0ced410e3db0a10a18d6f2aaf9b7c3a8c6b36d76c925", func := "glossary/glossarylaw02.PointsOrder", spec := "pointsOrder", inPlace := ["internal/reflectlite.ValueOf", "(internal/reflectlite.Value).Type", "(internal/reflectlite.Value).IsNil", "internal/reflectlite.TypeOf", "(internal/reflectlite.Value).Elem", "(internal/reflectlite.Value).Set"], unfollowed := true, recurses := true, named := ["unicode/utf8.first", "unicode/utf8.acceptRanges", "errors.errorType"], apart := false, laid := [("unicode/utf8.acceptRanges", laid_unicode_utf8_acceptRanges), ("errors.errorType", laid_errors_errorType), ("unicode/utf8.first", laid_unicode_utf8_first)], narrowed := true }
def PointsOrderUptoSaid : Prop := pointsOrderUptoRow.holds Tryd.pinned (OpenSpec.upto pointsOrderSpec)

/-- 'glossarylaw02.PointsRange', WHERE WHAT IT READS IS OF BULK AT MOST 1048576: true; the input reads as it did. -/
def pointsRangeUptoRow : OpenClaim := { program := "ytbkimhbpcmbflaadoor", sum := "98abfa3905fb31da03bd0ced410e3db0a10a18d6f2aaf9b7c3a8c6b36d76c925", func := "glossary/glossarylaw02.PointsRange", spec := "pointsRange", inPlace := ["internal/reflectlite.ValueOf", "(internal/reflectlite.Value).Type", "(internal/reflectlite.Value).IsNil", "internal/reflectlite.TypeOf", "(internal/reflectlite.Value).Elem", "(internal/reflectlite.Value).Set"], unfollowed := true, recurses := true, named := ["unicode/utf8.first", "unicode/utf8.acceptRanges", "errors.errorType"], apart := false, laid := [("unicode/utf8.acceptRanges", laid_unicode_utf8_acceptRanges), ("errors.errorType", laid_errors_errorType), ("unicode/utf8.first", laid_unicode_utf8_first)], narrowed := true }
def PointsRangeUptoSaid : Prop := pointsRangeUptoRow.holds Tryd.pinned (OpenSpec.upto pointsRangeSpec)

/-- 'glossarylaw01.UtfUnits', WHERE WHAT IT READS IS OF BULK AT MOST 1048576: true; the input reads as it did. -/
def utfUnitsUptoRow : OpenClaim := { program := "ytbkimhbpcmbflaadoor", sum := "98abfa3905fb31da03bd0ced410e3db0a10a18d6f2aaf9b7c3a8c6b36d76c925", func := "glossary/glossarylaw01.UtfUnits", spec := "utfUnits", inPlace := ["internal/abi.NoEscape", "internal/bytealg.MakeNoZero"], unfollowed := true, recurses := true, named := ["unicode/utf8.first", "unicode/utf8.acceptRanges"], apart := false, laid := [("unicode/utf8.acceptRanges", laid_unicode_utf8_acceptRanges), ("unicode/utf8.first", laid_unicode_utf8_first)], narrowed := true }
def UtfUnitsUptoSaid : Prop := utfUnitsUptoRow.holds Tryd.pinned (OpenSpec.upto utfUnitsSpec)

/-- 'glossarylaw01.UtfWalks', WHERE WHAT IT READS IS OF BULK AT MOST 1048576: true; the input reads as it did. -/
def utfWalksUptoRow : OpenClaim := { program := "ytbkimhbpcmbflaadoor", sum := "98abfa3905fb31da03bd0ced410e3db0a10a18d6f2aaf9b7c3a8c6b36d76c925", func := "glossary/glossarylaw01.UtfWalks", spec := "utfWalks", inPlace := ["internal/abi.NoEscape", "internal/bytealg.MakeNoZero"], unfollowed := true, recurses := true, named := ["unicode/utf8.first", "unicode/utf8.acceptRanges"], apart := false, laid := [("unicode/utf8.acceptRanges", laid_unicode_utf8_acceptRanges), ("unicode/utf8.first", laid_unicode_utf8_first)], narrowed := true }
def UtfWalksUptoSaid : Prop := utfWalksUptoRow.holds Tryd.pinned (OpenSpec.upto utfWalksSpec)

/-- 'glossarylaw02.PointsMutual', WHERE WHAT IT READS IS OF BULK AT MOST 1048576: true; the input reads as it did. -/
def pointsMutualUptoRow : OpenClaim := { program := "ytbkimhbpcmbflaadoor", sum := "98abfa3905fb31da03bd0ced410e3db0a10a18d6f2aaf9b7c3a8c6b36d76c925", func := "glossary/glossarylaw02.PointsMutual", spec := "pointsMutual", inPlace := ["internal/reflectlite.ValueOf", "(internal/reflectlite.Value).Type", "(internal/reflectlite.Value).IsNil", "internal/reflectlite.TypeOf", "(internal/reflectlite.Value).Elem", "(internal/reflectlite.Value).Set"], unfollowed := true, recurses := true, named := ["unicode/utf8.first", "unicode/utf8.acceptRanges", "errors.errorType"], apart := false, laid := [("unicode/utf8.acceptRanges", laid_unicode_utf8_acceptRanges), ("errors.errorType", laid_errors_errorType), ("unicode/utf8.first", laid_unicode_utf8_first)], narrowed := true }
def PointsMutualUptoSaid : Prop := pointsMutualUptoRow.holds Tryd.pinned (OpenSpec.upto pointsMutualSpec)

/-- 'glossarylaw02.PointsPlaces', WHERE WHAT IT READS IS OF BULK AT MOST 1048576: true; the input reads as it did. -/
def pointsPlacesUptoRow : OpenClaim := { program := "ytbkimhbpcmbflaadoor", sum := "98abfa3905fb31da03bd0ced410e3db0a10a18d6f2aaf9b7c3a8c6b36d76c925", func := "glossary/glossarylaw02.PointsPlaces", spec := "pointsPlaces", inPlace := ["internal/reflectlite.ValueOf", "(internal/reflectlite.Value).Type", "(internal/reflectlite.Value).IsNil", "internal/reflectlite.TypeOf", "(internal/reflectlite.Value).Elem", "(internal/reflectlite.Value).Set"], unfollowed := true, recurses := true, named := ["unicode/utf8.first", "unicode/utf8.acceptRanges", "errors.errorType"], apart := false, laid := [("unicode/utf8.acceptRanges", laid_unicode_utf8_acceptRanges), ("errors.errorType", laid_errors_errorType), ("unicode/utf8.first", laid_unicode_utf8_first)], narrowed := true }
def PointsPlacesUptoSaid : Prop := pointsPlacesUptoRow.holds Tryd.pinned (OpenSpec.upto pointsPlacesSpec)

/-- 'glossarylaw02.PointsKnown', WHERE WHAT IT READS IS OF BULK AT MOST 1048576: true; the input reads as it did. -/
def pointsKnownUptoRow : OpenClaim := { program := "ytbkimhbpcmbflaadoor", sum := "98abfa3905fb31da03bd0ced410e3db0a10a18d6f2aaf9b7c3a8c6b36d76c925", func := "glossary/glossarylaw02.PointsKnown", spec := "pointsKnown", inPlace := ["internal/reflectlite.ValueOf", "(internal/reflectlite.Value).Type", "(internal/reflectlite.Value).IsNil", "internal/reflectlite.TypeOf", "(internal/reflectlite.Value).Elem", "(internal/reflectlite.Value).Set"], unfollowed := true, recurses := true, named := ["errors.errorType", "unicode/utf8.first", "unicode/utf8.acceptRanges"], apart := false, laid := [("unicode/utf8.acceptRanges", laid_unicode_utf8_acceptRanges), ("errors.errorType", laid_errors_errorType), ("unicode/utf8.first", laid_unicode_utf8_first)], narrowed := true }
def PointsKnownUptoSaid : Prop := pointsKnownUptoRow.holds Tryd.pinned (OpenSpec.upto pointsKnownSpec)

/-- 'glossarylaw01.UtfMended', WHERE WHAT IT READS IS OF BULK AT MOST 1048576: true; the input reads as it did. -/
def utfMendedUptoRow : OpenClaim := { program := "ytbkimhbpcmbflaadoor", sum := "98abfa3905fb31da03bd0ced410e3db0a10a18d6f2aaf9b7c3a8c6b36d76c925", func := "glossary/glossarylaw01.UtfMended", spec := "utfMended", inPlace := ["internal/abi.NoEscape", "internal/bytealg.MakeNoZero"], unfollowed := true, recurses := true, named := ["unicode/utf8.first", "unicode/utf8.acceptRanges"], apart := false, laid := [("unicode/utf8.acceptRanges", laid_unicode_utf8_acceptRanges), ("unicode/utf8.first", laid_unicode_utf8_first)], narrowed := true }
def UtfMendedUptoSaid : Prop := utfMendedUptoRow.holds Tryd.pinned (OpenSpec.upto utfMendedSpec)

/-- 'glossarylaw01.UtfRange', WHERE WHAT IT READS IS OF BULK AT MOST 1048576: true; the input reads as it did. -/
def utfRangeUptoRow : OpenClaim := { program := "ytbkimhbpcmbflaadoor", sum := "98abfa3905fb31da03bd0ced410e3db0a10a18d6f2aaf9b7c3a8c6b36d76c925", func := "glossary/glossarylaw01.UtfRange", spec := "utfRange", inPlace := ["internal/abi.NoEscape", "internal/bytealg.MakeNoZero"], unfollowed := true, recurses := true, named := ["unicode/utf8.first", "unicode/utf8.acceptRanges"], apart := false, laid := [("unicode/utf8.acceptRanges", laid_unicode_utf8_acceptRanges), ("unicode/utf8.first", laid_unicode_utf8_first)], narrowed := true }
def UtfRangeUptoSaid : Prop := utfRangeUptoRow.holds Tryd.pinned (OpenSpec.upto utfRangeSpec)

/-- 'glossarylaw01.UtfKnown', WHERE WHAT IT READS IS OF BULK AT MOST 1048576: true; the input reads as it did. -/
def utfKnownUptoRow : OpenClaim := { program := "ytbkimhbpcmbflaadoor", sum := "98abfa3905fb31da03bd0ced410e3db0a10a18d6f2aaf9b7c3a8c6b36d76c925", func := "glossary/glossarylaw01.UtfKnown", spec := "utfKnown", inPlace := ["internal/abi.NoEscape", "internal/bytealg.MakeNoZero"], unfollowed := true, recurses := true, named := ["unicode/utf8.first", "unicode/utf8.acceptRanges"], apart := false, laid := [("unicode/utf8.acceptRanges", laid_unicode_utf8_acceptRanges), ("unicode/utf8.first", laid_unicode_utf8_first)], narrowed := true }
def UtfKnownUptoSaid : Prop := utfKnownUptoRow.holds Tryd.pinned (OpenSpec.upto utfKnownSpec)

/-- 'glossarylaw01.UtfSides', WHERE WHAT IT READS IS OF BULK AT MOST 1048576: true; the input reads as it did. -/
def utfSidesUptoRow : OpenClaim := { program := "ytbkimhbpcmbflaadoor", sum := "98abfa3905fb31da03bd0ced410e3db0a10a18d6f2aaf9b7c3a8c6b36d76c925", func := "glossary/glossarylaw01.UtfSides", spec := "utfSides", inPlace := ["internal/abi.NoEscape", "internal/bytealg.MakeNoZero"], unfollowed := true, recurses := true, named := ["unicode/utf8.first", "unicode/utf8.acceptRanges"], apart := false, laid := [("unicode/utf8.acceptRanges", laid_unicode_utf8_acceptRanges), ("unicode/utf8.first", laid_unicode_utf8_first)], narrowed := true }
def UtfSidesUptoSaid : Prop := utfSidesUptoRow.holds Tryd.pinned (OpenSpec.upto utfSidesSpec)

end Rows
end Go.Proofs.YtbkimhbpcmbflaaDoor
