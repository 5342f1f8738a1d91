/-
  Of this seat's texts what the claim wants (printed by a program): D0.
-/
import Derived.Test.YtekoeobfddfgpaaGreatDoorRShelf
import Derived.Test.YtekoeobfddfgpaaGreatDoorRMath1
import Derived.WalkKit
import Derived.WalkSpells
import Derived.WalkLawsBesides
import Derived.BigCall
import Derived.Lib.Hide
import Derived.Lib.IndexBytes
import Derived.Laws.IdiomStrings
import Derived.Lib.OthersKept
import Derived.Lib.AppendStr
import Derived.Laws.BytesArg
import Derived.LaidEql
import Derived.Stop.Asserts
import Derived.RowKitTokens
import Derived.KernelRfl
import Derived.Laws.Tables
import Derived.Laws.Rows
import Derived.Deep.RegionHeld3
import Derived.Test.YtekoeobfddfgpaaGreatDoorRPAllx
import Derived.Laws.Cover4
import Derived.RangeFuncNested
import Derived.RangeFuncBound
import Derived.RangeFuncCalls
import Derived.RangeFuncLeaves
import Derived.Shelf.Abstract
import Derived.Shelf.RegionOpen
import Derived.OwnWalkIn
import Derived.TacticsInMore
import Derived.LoopNIn
import Derived.LoopIn
import Derived.Test.YtekoeobfddfgpaaGreatDoorRMM
import Derived.Shelf.Unicode.ValidAny
import Derived.Deep.QuietTactic
import Derived.BigQuiet
import Derived.RangeFuncBox
set_option linter.unusedVariables false
set_option linter.unusedSimpArgs false
namespace Go.Proofs.YtekoeobfddfgpaaGreatDoor.C
open Go Go.RowKit Go.Proofs.YtekoeobfddfgpaaGreatDoor.M
abbrev bl (s : ByteArray) : List UInt8 := s.data.toList
theorem bl_len (s : ByteArray) : (bl s).length = s.size := (Lib.size_eq s).symm
theorem bl_extract (s : ByteArray) (p : Nat) : bl (s.extract p s.size) = (bl s).drop p := Lib.extract_to_end s p
theorem bl_nonempty {s : ByteArray} {p : Nat} (h : p < s.size) : (bl s).drop p ≠ [] := ne_nil_of_lt (by rw [bl_len]; exact h)
theorem decodeGo_eq {s : ByteArray} {p : Nat} (h : p < s.size) : Lib.decodeGo (s.extract p s.size) = (dc ((bl s).drop p), dw ((bl s).drop p)) := by
  unfold Lib.decodeGo
  have hz : (s.extract p s.size).size = s.size - p := by simp
  rw [if_neg (by omega)]
  have := Lib.decodeL_drop (s.extract p s.size) 0
  rw [← this]
  show Lib.decodeL (List.drop 0 (bl (s.extract p s.size))) = _
  rw [bl_extract]
  rfl
theorem byte_at {s : ByteArray} {p : Nat} (h : p < s.size) : (s[p]'h).toNat = b0 ((bl s).drop p) := by
  unfold b0 bl
  simp only [List.getD_eq_getElem?_getD, List.getElem?_drop, Nat.add_zero]
  have hp : p < s.data.toList.length := by have := Lib.size_eq s; omega
  rw [List.getElem?_eq_getElem hp]
  rfl
theorem decode_rest (s : ByteArray) (p : Nat) (w : World) (hT : Lib.Utf8Tabs 2 3 w) (h : p < s.size) :
    Calls Tryz.prog 56 #[.string (s.extract p s.size)] w fun e w' => e = .returned (.tuple #[.int .i32 (dc ((bl s).drop p) : Nat), .int .i64 (dw ((bl s).drop p) : Nat)]) ∧ Below w.heap.size w w' := by
  have := Tryz.utf8_DecodeRuneInString (s.extract p s.size) w hT
  rw [decodeGo_eq h] at this
  exact this
end Go.Proofs.YtekoeobfddfgpaaGreatDoor.C
set_option linter.unusedVariables false
set_option linter.unusedSimpArgs false
namespace Go.Proofs.YtekoeobfddfgpaaGreatDoor.C
open Go Go.RowKit Go.Proofs.YtekoeobfddfgpaaGreatDoor.M
def Row (w : World) (base : Nat) (e : TypeId) (k : IntKind) (v : Value) (xs : List Int) : Prop := w.ownsRow base e 1 v xs.length (xs.map (Value.int k))
theorem cell_modify {w : World} {B : Nat} {cur : Array Value} {e : TypeId} (h : w.heap[B]? = some (.cells cur e (0, 0))) (j : Nat) (u : Value) :
    (w.setCell ⟨B, j, none⟩ u).heap[B]? = some (.cells (cur.setIfInBounds j u) e (0, 0)) := by
  simp [World.setCell, Array.getElem?_modify, h]
theorem frozen_cells {w : World} {B : Nat} {cur : Array Value} {e : TypeId} (h : w.heap[B]? = some (.cells cur e (0, 0))) (j : Nat) : w.frozen? ⟨B, j, none⟩ = false := by
  simp [World.frozen?, h]
end Go.Proofs.YtekoeobfddfgpaaGreatDoor.C
set_option linter.unusedVariables false
set_option linter.unusedSimpArgs false
namespace Go.Proofs.YtekoeobfddfgpaaGreatDoor.C
open Go Go.RowKit Go.Proofs.YtekoeobfddfgpaaGreatDoor.M
def Rd (w : World) (B : Nat) (k : IntKind) (A : Option Addr) (xs : List Int) : Prop :=
  xs = [] ∨ ∃ x : Addr, A = some x ∧ x.block < B ∧ ∀ j u, xs[j]? = some u → w.cell? (x.add j) = some (.int k u)
theorem add_block (a : Addr) (n : Nat) : (a.add n).block = a.block := by unfold Addr.add; split <;> rfl
theorem Rd.below {w w' : World} {B B' : Nat} {k : IntKind} {A : Option Addr} {xs : List Int} (h : Rd w B k A xs) (hb : Below B' w w') (hB : B ≤ B') : Rd w' B k A xs := by
  rcases h with h | ⟨x, e, hlt, hc⟩
  · exact .inl h
  · exact .inr ⟨x, e, hlt, fun j u hj => (hb.cell (p := x.add j) (by rw [add_block]; omega)).trans (hc j u hj)⟩
theorem Rd.more {w : World} {B B' : Nat} {k : IntKind} {A : Option Addr} {xs : List Int} (h : Rd w B k A xs) (hB : B ≤ B') : Rd w B' k A xs := by
  rcases h with h | ⟨x, e, hlt, hc⟩
  · exact .inl h
  · exact .inr ⟨x, e, by omega, hc⟩
def bcells (bs : List UInt8) : List Value := bs.map fun b => Value.int .u8 (b.toNat : Int)
theorem bcells_append (a b : List UInt8) : bcells (a ++ b) = bcells a ++ bcells b := by simp [bcells]
theorem Tryz.infoByte : (Tryz.prog.info? 5).map (fun i => (i.zero, i.size, i.bytes)) = some (some (.int .u8 0), 1, 1) := by kernel_rfl
end Go.Proofs.YtekoeobfddfgpaaGreatDoor.C
set_option linter.unusedVariables false
set_option linter.unusedSimpArgs false
namespace Go.Proofs.YtekoeobfddfgpaaGreatDoor.E
open Go Go.RowKit Go.Extern.Stop Go.Stop Go.Extern
theorem typeOfNo (v : Value) (w : World) : (ReflectliteType.typeOf #[.iface 45 v]).run Tryz.prog w = .ok (.iface 127 (.agg #[.pointer (some ⟨4, 45, none⟩)])) w := by kernel_rfl
theorem comparableNo (w : World) : ((ReflectliteType.method fun t => do Rtype.noPackHeld "Comparable" t; (fun a => Value.bool a.comparable) <$> typeInfo t) #[.agg #[.pointer (some ⟨4, 45, none⟩)]]).run Tryz.prog w = .ok (.bool true) w := by kernel_rfl
theorem methodComparable (v : Value) (w : World) : (Go.method 284 127 v "Comparable").run Tryz.prog w = .ok (134, v) w := by kernel_rfl
theorem noIsF (v : Value) (xT : TypeId) (w : World) : (Instr.typeAssert (.iface 47 v) xT 129 true).run Tryz.prog w = .ok (.tuple #[.nilIface, .bool false]) w := run_typeAssert_lacksB Tryz.underlying129 (by kernel_rfl) (by kernel_rfl) v xT w
theorem noIsN (v : Value) (xT : TypeId) (w : World) : (Instr.typeAssert (.iface 45 v) xT 129 true).run Tryz.prog w = .ok (.tuple #[.nilIface, .bool false]) w := run_typeAssert_lacksB Tryz.underlying129 (by kernel_rfl) (by kernel_rfl) v xT w
theorem hasUnwrapF (v : Value) (xT : TypeId) (w : World) : (Instr.typeAssert (.iface 47 v) xT 132 true).run Tryz.prog w = .ok (.tuple #[.iface 47 v, .bool true]) w := run_typeAssert_hasB Tryz.underlying132 (by kernel_rfl) v xT w
theorem noUnwrapN (v : Value) (xT : TypeId) (w : World) : (Instr.typeAssert (.iface 45 v) xT 132 true).run Tryz.prog w = .ok (.tuple #[.nilIface, .bool false]) w := run_typeAssert_lacksB Tryz.underlying132 (by kernel_rfl) (by kernel_rfl) v xT w
theorem noUnwrapsN (v : Value) (xT : TypeId) (w : World) : (Instr.typeAssert (.iface 45 v) xT 133 true).run Tryz.prog w = .ok (.tuple #[.nilIface, .bool false]) w := run_typeAssert_lacksB Tryz.underlying133 (by kernel_rfl) (by kernel_rfl) v xT w
theorem methodUnwrap (v : Value) (w : World) : (Go.method 284 47 v "Unwrap").run Tryz.prog w = .ok (127, v) w := by kernel_rfl
theorem infoNo : (Tryz.prog.info? 45).map (·.comparable) = some true := by kernel_rfl
theorem run_eql_iface_int {P : Program} (w : World) {ti tn : TypeId} {ms : Array (String × TypeId)} {i : TypeInfo} {k : IntKind} (a b : Int)
    (hi : P.underlying ti = some (.interface ms)) (hn : P.underlying tn = some (.int k)) (hinfo : P.info? tn = some i) (hcomp : i.comparable = true) :
    (binOp .eql ti (.iface tn (.int k a)) (.iface tn (.int k b))).run P w = .ok (.bool (a == b)) w := by
  have h : ∀ d : Nat, (Op.equalIn (d + 2) ti (.iface tn (.int k a)) (.iface tn (.int k b))).run P w = .ok (a == b) w := fun d => by
    simp [Op.equalIn, run_underlying hi, run_underlying hn, typeInfo, hinfo, hcomp]
  simp only [binOp]
  simp [Op.equal, Op.maxDepth, h 9998]
abbrev flt (no line at_ : Int) : Value := .iface 47 (.agg #[.int .i64 no, .int .i64 line, .int .i64 at_])
abbrev erno (n : Int) : Value := .iface 45 (.int .i64 n)
set_option maxHeartbeats 4000000 in
set_option maxRecDepth 1000000 in
theorem is_fault (no line at_ n : Int) (w : World) :
    Calls Tryz.prog 23 #[flt no line at_, erno n] w fun e w' => e = .returned (.bool (no == n)) ∧ Below w.heap.size w w' := by
  obtain ⟨i, hi, hcmp⟩ := Option.map_eq_some_iff.1 infoNo
  have h1 := @run_callFunc_extern Tryz.prog 53 _ ReflectliteType.typeOf Tryz.func53 (by kernel_rfl) (by kernel_rfl) (by kernel_rfl) (by kernel_rfl)
  have h2 := @run_callFunc_extern Tryz.prog 134 _ (ReflectliteType.method fun t => do Rtype.noPackHeld "Comparable" t; pure (.bool (← typeInfo t).comparable)) Tryz.func134 (by kernel_rfl) (by kernel_rfl) (by kernel_rfl) (by kernel_rfl)
  have tT := typeOfNo
  have cT := comparableNo
  have mR := methodComparable
  have nE := noIsF
  have nN := noIsN
  have uF := hasUnwrapF
  have uN := noUnwrapN
  have vN := noUnwrapsN
  have mU := methodUnwrap
  have heq := fun W : World => run_eql_iface_int (P := Tryz.prog) W no n Tryz.underlying28 Tryz.underlying45 hi hcmp
  have hty := run_eql_iface_types (P := Tryz.prog) 47 45 (.agg #[.int .i64 no, .int .i64 line, .int .i64 at_]) (.int .i64 n) Tryz.underlying28 (by decide) w
  obtain ⟨b, hb⟩ : ∃ b, (no == n) = b := ⟨_, rfl⟩
  simp only [hb] at heq ⊢
  clear hb
  cases b
  all_goals
    go_enter Tryz.func23, Tryz.ntmps23
    go_wp2
    refine wp_loop_rounds 2 ?_
    rw [rounds_succ]
    go_wp2
    rw [rounds_succ]
    go_wp2
    go_ret
    exact ⟨rfl, (Below.refl _ _).alloc (Nat.le_refl _) _⟩
theorem valueOfP (t : Addr) (w : World) : (ReflectliteValue.unpack (.iface 82 (.pointer (some t)))).run Tryz.prog w
    = .ok (.agg #[.pointer (some ⟨4, 82, none⟩), .pointer (some ⟨w.heap.size, 0, none⟩), .int .u64 150]) (w.alloc (.cells #[.pointer (some t)] 82)) := by kernel_rfl
theorem typeP (a : Addr) (w : World) : (ReflectliteValue.methodAny (ReflectliteValue.valueError "reflectlite.Value.Type" 0) (fun t _ _ _ => ReflectliteType.toType t) #[.agg #[.pointer (some ⟨4, 82, none⟩), .pointer (some a), .int .u64 150]]).run Tryz.prog w
    = .ok (.iface 127 (.agg #[.pointer (some ⟨4, 82, none⟩)])) w := by kernel_rfl
theorem methodElem (h : Value) (w : World) : (Go.method 284 127 (.agg #[h]) "Elem").run Tryz.prog w = .ok (135, .agg #[h]) w := by kernel_rfl
theorem methodImplements (h : Value) (w : World) : (Go.method 284 127 (.agg #[h]) "Implements").run Tryz.prog w = .ok (136, .agg #[h]) w := by kernel_rfl
theorem methodAssignableTo (h : Value) (w : World) : (Go.method 284 127 (.agg #[h]) "AssignableTo").run Tryz.prog w = .ok (133, .agg #[h]) w := by kernel_rfl
theorem methodKind (h : Value) (w : World) : (Go.method 284 127 (.agg #[h]) "Kind").run Tryz.prog w = .ok (122, h) w := by kernel_rfl
theorem kindP (w : World) : ((ReflectliteType.abiMethod fun t => (fun a : Nat => Value.int IntKind.u8 (a : Int)) <$> Rtype.kind t) #[.pointer (some ⟨4, 82, none⟩)]).run Tryz.prog w = .ok (.int .u8 22) w := by kernel_rfl
theorem kindF (w : World) : ((ReflectliteType.abiMethod fun t => (fun a : Nat => Value.int IntKind.u8 (a : Int)) <$> Rtype.kind t) #[.pointer (some ⟨4, 47, none⟩)]).run Tryz.prog w = .ok (.int .u8 25) w := by kernel_rfl
theorem elemP (w : World) : (ReflectliteType.method ReflectliteType.elem #[.agg #[.pointer (some ⟨4, 82, none⟩)]]).run Tryz.prog w = .ok (.iface 127 (.agg #[.pointer (some ⟨4, 47, none⟩)])) w := by kernel_rfl
theorem implementsF (w : World) : (ReflectliteType.relation "Implements" ReflectliteType.implements_ #[.agg #[.pointer (some ⟨4, 47, none⟩)], .iface 127 (.agg #[.pointer (some ⟨4, 28, none⟩)])]).run Tryz.prog w = .ok (.bool true) w := by kernel_rfl
theorem typeOfF (v : Value) (w : World) : (ReflectliteType.typeOf #[.iface 47 v]).run Tryz.prog w = .ok (.iface 127 (.agg #[.pointer (some ⟨4, 47, none⟩)])) w := by kernel_rfl
theorem assignableF (w : World) : (ReflectliteType.relation "AssignableTo" ReflectliteType.assignableTo #[.agg #[.pointer (some ⟨4, 47, none⟩)], .iface 127 (.agg #[.pointer (some ⟨4, 47, none⟩)])]).run Tryz.prog w = .ok (.bool true) w := by kernel_rfl
theorem valueOfF (a b c : Value) (w : World) : (ReflectliteValue.unpack (.iface 47 (.agg #[a, b, c]))).run Tryz.prog w
    = .ok (.agg #[.pointer (some ⟨4, 47, none⟩), .pointer (some ⟨w.heap.size, 0, none⟩), .int .u64 153]) (w.alloc (.cells #[a, b, c] 47)) := by kernel_rfl
theorem rlm (z : Sem Value) (f : TypeId → Addr → Nat → Nat → Sem Value) (v : Value) :
    ReflectliteValue.method z f #[v] = (do match ← ReflectliteValue.parts v with | none => z | some (t, a, fl) => f t a fl (fl % 32)) := rfl
theorem partsP (a : Addr) (w : World) : (ReflectliteValue.parts (.agg #[.pointer (some ⟨4, 82, none⟩), .pointer (some a), .int .u64 150])).run Tryz.prog w = .ok (some (82, a, 150)) w := by kernel_rfl
theorem isNilP (a p : Addr) (W : World) (ha : W.cell? a = some (.pointer (some p))) :
    (ReflectliteValue.method (ReflectliteValue.valueError "reflectlite.Value.IsNil" 0) ReflectliteValue.isNil #[.agg #[.pointer (some ⟨4, 82, none⟩), .pointer (some a), .int .u64 150]]).run Tryz.prog W = .ok (.bool false) W := by
  rw [rlm]
  simp only [Sem.run_bind, partsP, Result.andThen]
  simp [ReflectliteValue.isNil, loadVar, isAgg, underlying, Tryz.underlying82, ha, Result.andThen]
theorem elemOfP (w : World) : (Rtype.elem? 82).run Tryz.prog w = .ok (some 47) w := by kernel_rfl
theorem mkF (p : Addr) (w : World) : (ReflectliteValue.mk 47 p ReflectliteValue.flagAddr).run Tryz.prog w = .ok (.agg #[.pointer (some ⟨4, 47, none⟩), .pointer (some p), .int .u64 409]) w := by kernel_rfl
theorem elemVP (a p : Addr) (W : World) (ha : W.cell? a = some (.pointer (some p))) :
    (ReflectliteValue.method (ReflectliteValue.valueError "reflectlite.Value.Elem" 0) ReflectliteValue.elem #[.agg #[.pointer (some ⟨4, 82, none⟩), .pointer (some a), .int .u64 150]]).run Tryz.prog W
      = .ok (.agg #[.pointer (some ⟨4, 47, none⟩), .pointer (some p), .int .u64 409]) W := by
  rw [rlm]
  simp only [Sem.run_bind, partsP, Result.andThen]
  simp [ReflectliteValue.elem, loadVar, isAgg, underlying, Tryz.underlying82, ha, Result.andThen, elemOfP, mkF]
theorem rls (v x : Value) : ReflectliteValue.set #[v, x] = (do
    let (some (dst, a, fl), some (src, b, _)) := (← ReflectliteValue.parts v, ← ReflectliteValue.parts x)
      | unsupported (.noEntry "extern/(internal/reflectlite.Value).Set.zeroValue")
    if fl / ReflectliteValue.flagAddr % 2 == 0 then unsupported (.noEntry "extern/(internal/reflectlite.Value).Set.unaddressable")
    let val ← loadVar src b
    if ← Rtype.directlyAssignable dst src then storeVar dst a val
    else if ← Rtype.implements dst src then
      if (← Rtype.kind src) == 20 then
        match val with
        | .nilIface => unsupported (.noEntry "extern/reflectlite: a nil value of one interface type handed on as a value of another")
        | _ => storeVar dst a val
      else storeVar dst a (.iface src val)
    else panicString ("reflectlite.Set: value of type " ++ (← Rtype.spelt src) ++ " is not assignable to type " ++ (← Rtype.spelt dst))
    pure (.tuple #[])) := rfl
theorem partsFa (a : Addr) (w : World) : (ReflectliteValue.parts (.agg #[.pointer (some ⟨4, 47, none⟩), .pointer (some a), .int .u64 409])).run Tryz.prog w = .ok (some (47, a, 409)) w := by kernel_rfl
theorem partsF (a : Addr) (w : World) : (ReflectliteValue.parts (.agg #[.pointer (some ⟨4, 47, none⟩), .pointer (some a), .int .u64 153])).run Tryz.prog w = .ok (some (47, a, 153)) w := by kernel_rfl
theorem directF (w : World) : (Rtype.directlyAssignable 47 47).run Tryz.prog w = .ok true w := by kernel_rfl
theorem sizeF : (Tryz.prog.info? 47).map (·.size) = some 3 := by kernel_rfl
end Go.Proofs.YtekoeobfddfgpaaGreatDoor.E
set_option linter.unusedVariables false
set_option linter.unusedSimpArgs false
namespace Go.Proofs.YtekoeobfddfgpaaGreatDoor.E
open Go Go.RowKit Go.Extern.Stop Go.Stop Go.Extern
theorem setF (T b : Nat) (old : Array Value) (x y z : Value) (W : World) (hx : x.oneCell' = true) (hy : y.oneCell' = true) (hz : z.oneCell' = true)
    (hb : W.heap[b]? = some (.cells #[x, y, z] 47 (0, 0))) (hT : W.heap[T]? = some (.cells old 47 (0, 0))) (ho : old.size = 3) :
    (ReflectliteValue.set #[.agg #[.pointer (some ⟨4, 47, none⟩), .pointer (some ⟨T, 0, none⟩), .int .u64 409], .agg #[.pointer (some ⟨4, 47, none⟩), .pointer (some ⟨b, 0, none⟩), .int .u64 153]]).run Tryz.prog W
      = .ok (.tuple #[]) (W.setRow T #[x, y, z]) := by
  have h1 := run_loadVar_row (P := Tryz.prog) W b 47 47 #[x, y, z] (0, 0) _ hb Tryz.underlying47 rfl sizeF
  have h2 := run_storeVar_row (P := Tryz.prog) W T 47 47 old #[x, y, z] hT sizeF (by rw [ho]; rfl) (by simp [hx, hy, hz])
  rw [rls]
  simp only [Sem.run_bind, partsFa, partsF, Result.andThen]
  simp [ReflectliteValue.flagAddr, h1, h2, directF, Result.andThen]
structure AsPost (T : Nat) (x y z : Value) (w : World) (e : Ending) (w' : World) : Prop where
  ret : e = .returned (.bool true)
  blk : w'.heap[T]? = some (.cells #[x, y, z] 47 (0, 0))
  grown : w.grownBy w' (some T)
set_option maxHeartbeats 4000000 in
set_option maxRecDepth 1000000 in
theorem as_fault (T : Nat) (old : Array Value) (no line at_ : Int) (w : World) (hg : w.cell? ⟨1, 0, none⟩ = some (.iface 127 (.agg #[.pointer (some ⟨4, 28, none⟩)])))
    (hT : w.heap[T]? = some (.cells old 47 (0, 0))) (ho : old.size = 3) :
    Calls Tryz.prog 52 #[flt no line at_, .iface 82 (.pointer (some ⟨T, 0, none⟩))] w (AsPost T (.int .i64 no) (.int .i64 line) (.int .i64 at_) w) := by
  have e1 := @run_callFunc_extern Tryz.prog 81 _ (fun args => ReflectliteValue.unpack (args.getD 0 (.tuple #[]))) Tryz.func81 (by kernel_rfl) (by kernel_rfl) (by kernel_rfl) (by kernel_rfl)
  have e2 := @run_callFunc_extern Tryz.prog 82 _ (ReflectliteValue.methodAny (ReflectliteValue.valueError "reflectlite.Value.Type" 0) (fun t _ _ _ => ReflectliteType.toType t)) Tryz.func82 (by kernel_rfl) (by kernel_rfl) (by kernel_rfl) (by kernel_rfl)
  have e3 := @run_callFunc_extern Tryz.prog 83 _ (ReflectliteValue.method (ReflectliteValue.valueError "reflectlite.Value.IsNil" 0) ReflectliteValue.isNil) Tryz.func83 (by kernel_rfl) (by kernel_rfl) (by kernel_rfl) (by kernel_rfl)
  have e4 := @run_callFunc_extern Tryz.prog 122 _ (ReflectliteType.abiMethod fun t => do pure (.int .u8 (← Rtype.kind t))) Tryz.func122 (by kernel_rfl) (by kernel_rfl) (by kernel_rfl) (by kernel_rfl)
  have e5 := @run_callFunc_extern Tryz.prog 135 _ (ReflectliteType.method ReflectliteType.elem) Tryz.func135 (by kernel_rfl) (by kernel_rfl) (by kernel_rfl) (by kernel_rfl)
  have e6 := @run_callFunc_extern Tryz.prog 136 _ (ReflectliteType.relation "Implements" ReflectliteType.implements_) Tryz.func136 (by kernel_rfl) (by kernel_rfl) (by kernel_rfl) (by kernel_rfl)
  have e7 := @run_callFunc_extern Tryz.prog 53 _ ReflectliteType.typeOf Tryz.func53 (by kernel_rfl) (by kernel_rfl) (by kernel_rfl) (by kernel_rfl)
  have e8 := @run_callFunc_extern Tryz.prog 133 _ (ReflectliteType.relation "AssignableTo" ReflectliteType.assignableTo) Tryz.func133 (by kernel_rfl) (by kernel_rfl) (by kernel_rfl) (by kernel_rfl)
  have e9 := @run_callFunc_extern Tryz.prog 99 _ (ReflectliteValue.method (ReflectliteValue.valueError "reflectlite.Value.Elem" 0) ReflectliteValue.elem) Tryz.func99 (by kernel_rfl) (by kernel_rfl) (by kernel_rfl) (by kernel_rfl)
  have e10 := @run_callFunc_extern Tryz.prog 100 _ ReflectliteValue.set Tryz.func100 (by kernel_rfl) (by kernel_rfl) (by kernel_rfl) (by kernel_rfl)
  have f1 := valueOfP
  have f2 := typeP
  have f3 := methodKind
  have f4 := methodElem
  have f5 := methodImplements
  have f6 := methodAssignableTo
  have f7 := kindP
  have f8 := kindF
  have f9 := elemP
  have f10 := implementsF
  have f11 := typeOfF
  have f12 := assignableF
  have f13 := valueOfF
  have hlt : 1 < w.heap.size := by
    rcases Nat.lt_or_ge 1 w.heap.size with h | h
    · exact h
    · simp [World.cell?, Array.getElem?_eq_none h] at hg
  have hTl : T < w.heap.size := (Array.getElem?_eq_some_iff.1 hT).1
  obtain ⟨t, ht⟩ : ∃ t : Addr, t = ⟨T, 0, none⟩ := ⟨_, rfl⟩
  rw [← ht]
  let w1 := w.alloc (.cells #[.pointer (some t)] 82)
  let w2 := w1.alloc (.cells #[.pointer (some ⟨4, 82, none⟩), .pointer (some ⟨w.heap.size, 0, none⟩), .int .u64 150] 119)
  let w3 := w2.alloc (.cells #[.pointer (some ⟨4, 82, none⟩), .pointer (some ⟨w.heap.size, 0, none⟩), .int .u64 150] 119)
  let w4 := w3.alloc (.cells #[.int .i64 no, .int .i64 line, .int .i64 at_] 47)
  have b1 : Below w.heap.size w w1 := (Below.refl _ _).alloc (Nat.le_refl _) _
  have b2 : Below w.heap.size w w2 := b1.alloc (by simp [w1]) _
  have b3 : Below w.heap.size w w3 := b2.alloc (by simp [w2, w1]; omega) _
  have b4 : Below w.heap.size w w4 := b3.alloc (by simp [w3, w2, w1]; omega) _
  have n8 := isNilP ⟨w.heap.size, 0, none⟩ t w2 (by simp [w2, w1])
  have hg2 : w2.cell? ⟨1, 0, none⟩ = _ := (b2.cell (p := ⟨1, 0, none⟩) hlt).trans hg
  have el := elemVP ⟨w.heap.size, 0, none⟩ t w3 (by
    have : w3.cell? ⟨w.heap.size, 0, none⟩ = w2.cell? ⟨w.heap.size, 0, none⟩ := World.cell?_alloc_lt _ _ ⟨w.heap.size, 0, none⟩ (by simp [w2, w1]; omega)
    rw [this]; simp [w2, w1])
  have hT4 : w4.heap[T]? = some (.cells old 47 (0, 0)) := (b4.block T hTl).trans hT
  have hb4 : w4.heap[w.heap.size + 1 + 1 + 1]? = some (.cells #[.int .i64 no, .int .i64 line, .int .i64 at_] 47 (0, 0)) := by
    have e : w3.heap.size = w.heap.size + 1 + 1 + 1 := by simp [w3, w2, w1]
    rw [← e]
    exact heap_alloc_new w3 (.cells #[.int .i64 no, .int .i64 line, .int .i64 at_] 47)
  have st := setF T (w.heap.size + 1 + 1 + 1) old (.int .i64 no) (.int .i64 line) (.int .i64 at_) w4 rfl rfl rfl hb4 hT4 ho
  rw [← ht] at st
  have hgr : w.grownBy (w4.setRow T #[.int .i64 no, .int .i64 line, .int .i64 at_]) (some T) := by
    refine ⟨b4.os, b4.tape, b4.output, ?_, fun k hk hne => ?_⟩
    · have := b4.size
      simpa [World.setRow] using this
    · have hkT : ¬ T = k := fun e => hne (by rw [e])
      have : (w4.setRow T #[.int .i64 no, .int .i64 line, .int .i64 at_]).heap[k]? = w4.heap[k]? := by
        unfold World.setRow
        rw [Array.getElem?_modify, if_neg hkT]
      rw [this]
      exact b4.block k hk
  have hbk : (w4.setRow T #[.int .i64 no, .int .i64 line, .int .i64 at_]).heap[T]? = some (.cells #[.int .i64 no, .int .i64 line, .int .i64 at_] 47 (0, 0)) := by
    unfold World.setRow
    rw [Array.getElem?_modify, if_pos rfl, hT4]
    rfl
  have Hgr := Lib.hid hgr
  have Hbk := Lib.hid hbk
  clear hgr hbk b1 b2 b3 b4 hT4 hb4 ht hg hT
  simp only [w4, w3, w2, w1] at n8 hg2 el st Hgr Hbk
  clear w4 w3 w2 w1
  go_enter Tryz.func52, Tryz.ntmps52
  go_wp2
  refine wp_loop_rounds 1 ?_
  rw [rounds_succ]
  go_wp2
  go_ret
  exact ⟨rfl, Hbk.out, Hgr.out⟩
end Go.Proofs.YtekoeobfddfgpaaGreatDoor.E
set_option linter.unusedVariables false
set_option linter.unusedSimpArgs false
namespace Go.Proofs.YtekoeobfddfgpaaGreatDoor.E
open Go Go.RowKit
set_option maxHeartbeats 4000000 in
set_option maxRecDepth 1000000 in
theorem num_fault (no line at_ : Int) (w : World) (h1 : 1 ≤ no) (h2 : no ≤ 25) :
    Calls Tryz.prog 10 #[flt no line at_] w fun e w' => e = .returned (.int .i64 no) ∧ Below w.heap.size w w' := by
  have cI := is_fault no line at_
  have hn0 : (no == 0) = false := beq_eq_false_iff_ne.2 (by omega)
  go_enter Tryz.func10, Tryz.ntmps10
  go_wp2
  go_loopw [3, 4] (fun f v wr => ∃ n : Nat, 1 ≤ n ∧ n ≤ 26 ∧ v = .int .i64 n ∧ f = .int .i64 (if no < n then no else 0) ∧ Below w.heap.size w wr) (fun _ v _ => 26 - (intOf v).toNat)
  case atStart => exact ⟨1, by omega, by omega, rfl, by rw [if_neg (by omega)], Below.refl _ _⟩
  case round =>
    obtain ⟨n, hn1, hn2, rfl, rfl, hbw⟩ := hrel
    by_cases hlt : n ≤ 25
    · have hltI : (n : Int) ≤ 25 := by omega
      have hbs := hbw.size
      by_cases he : no = n
      · have e1 : (if no < (n : Int) then no else 0) = 0 := if_neg (by omega)
        have e2 : (if no < ((n : Int) + 1) then no else 0) = (n : Int) := by rw [if_pos (by omega)]; exact he
        have E2 := Lib.hid e2
        have cI2 : ∀ W, Calls Tryz.prog 23 #[flt no line at_, erno n] W fun e w' => e = .returned (.bool true) ∧ Below W.heap.size W w' := fun W => by
          have := cI n W
          rw [show (no == (n : Int)) = true from beq_iff_eq.2 he] at this
          exact this
        rw [e1]
        clear e1 e2 he cI hn0
        go_wp2_with (go_at_call 23; refine (cI2 _).mono ?_; rintro e w' ⟨rfl, hb⟩)
        go_roundw
        case rel => exact ⟨n + 1, by omega, by omega, by go_num, by rw [show ((n + 1 : Nat) : Int) = (n : Int) + 1 by omega, E2.out], hbw.trans (hb.mono hbs)⟩
        case measure => simp [intOf]; omega
      · have cI2 : ∀ W, Calls Tryz.prog 23 #[flt no line at_, erno n] W fun e w' => e = .returned (.bool false) ∧ Below W.heap.size W w' := fun W => by
          have := cI n W
          rw [show (no == (n : Int)) = false from beq_eq_false_iff_ne.2 he] at this
          exact this
        have e2 : (if no < ((n : Int) + 1) then no else 0) = (if no < (n : Int) then no else 0) := by
          by_cases h : no < n
          · rw [if_pos h, if_pos (by omega)]
          · rw [if_neg h, if_neg (by omega)]
        have E2 := Lib.hid e2
        clear e2 he cI hn0
        go_wp2_with (go_at_call 23; refine (cI2 _).mono ?_; rintro e w' ⟨rfl, hb⟩)
        go_roundw
        case rel => exact ⟨n + 1, by omega, by omega, by go_num, by rw [show ((n + 1 : Nat) : Int) = (n : Int) + 1 by omega, E2.out], hbw.trans (hb.mono hbs)⟩
        case measure => simp [intOf]; omega
    · obtain rfl : n = 26 := by omega
      have e1 : (if no < ((26 : Nat) : Int) then no else 0) = no := if_pos (by omega)
      have cI2 : ∀ W, Calls Tryz.prog 23 #[flt no line at_, erno 0] W fun e w' => e = .returned (.bool false) ∧ Below W.heap.size W w' := fun W => by
        have := cI 0 W
        rw [hn0] at this
        exact this
      have hbs := hbw.size
      rw [e1]
      clear e1 cI
      go_wp2_with (go_at_call 23; refine (cI2 _).mono ?_; rintro e w' ⟨rfl, hb⟩)
      go_ret
      exact ⟨rfl, hbw.trans (hb.mono hbs)⟩
set_option maxHeartbeats 4000000 in
set_option maxRecDepth 1000000 in
theorem place_fault (no line at_ : Int) (w : World) (h1 : 1 ≤ no) (h2 : no ≤ 25) (hg : w.cell? ⟨1, 0, none⟩ = some (.iface 127 (.agg #[.pointer (some ⟨4, 28, none⟩)]))) :
    Calls Tryz.prog 22 #[flt no line at_] w fun e w' => e = .returned (.tuple #[.int .i64 line, .int .i64 at_, .bool true]) ∧ Below w.heap.size w w' := by
  have hlt : 1 < w.heap.size := by
    rcases Nat.lt_or_ge 1 w.heap.size with h | h
    · exact h
    · simp [World.cell?, Array.getElem?_eq_none h] at hg
  have cA := as_fault w.heap.size #[.int .i64 0, .int .i64 0, .int .i64 0] no line at_ (w.alloc (.cells #[.int .i64 0, .int .i64 0, .int .i64 0] 47)) ((World.cell?_alloc_lt _ _ ⟨1, 0, none⟩ hlt).trans hg) (heap_alloc_new _ _) rfl
  have cN := num_fault no line at_
  have e0 : (no == no) = true := by simp
  clear hg
  go_enter Tryz.func22, Tryz.ntmps22
  go_wp2_with (go_at_call 52; refine cA.mono ?_; rintro e w2 ⟨rfl, hblk, hgr⟩)
  have hbs : w.heap.size < w2.heap.size := (Array.getElem?_eq_some_iff.1 hblk).1
  have hb2 : Below w.heap.size w w2 := ((Below.refl _ w).alloc (Nat.le_refl _) _).grown hgr (by simp) (fun k hk => by cases hk; exact Nat.le_refl _)
  have k0 : w2.cell? ⟨w.heap.size, 0, none⟩ = some (.int .i64 no) := cell_of_row _ _ _ _ _ _ hblk
  have k1 : w2.cell? ⟨w.heap.size, 1, none⟩ = some (.int .i64 line) := cell_of_row _ _ _ _ _ _ hblk
  have k2 : w2.cell? ⟨w.heap.size, 2, none⟩ = some (.int .i64 at_) := cell_of_row _ _ _ _ _ _ hblk
  clear hblk hgr cA
  have cNS : ∀ W : World, (w2.heap.size ≤ W.heap.size ∧ Below w.heap.size w W ∧ W.cell? ⟨w.heap.size, 0, none⟩ = some (.int .i64 no) ∧ W.cell? ⟨w.heap.size, 1, none⟩ = some (.int .i64 line) ∧ W.cell? ⟨w.heap.size, 2, none⟩ = some (.int .i64 at_)) →
      Calls Tryz.prog 10 #[flt no line at_] W fun e w3 => e = .returned (.int .i64 no) ∧ (w2.heap.size ≤ w3.heap.size ∧ Below w.heap.size w w3 ∧ w3.cell? ⟨w.heap.size, 0, none⟩ = some (.int .i64 no) ∧ w3.cell? ⟨w.heap.size, 1, none⟩ = some (.int .i64 line) ∧ w3.cell? ⟨w.heap.size, 2, none⟩ = some (.int .i64 at_)) := fun W ⟨s1, s2, s3, s4, s5⟩ =>
    (cN W h1 h2).mono fun e w3 ⟨he, hb3⟩ => ⟨he, Nat.le_trans s1 hb3.size, s2.trans (hb3.mono (by omega)), (hb3.cell (p := ⟨w.heap.size, 0, none⟩) (by show w.heap.size < W.heap.size; omega)).trans s3, (hb3.cell (p := ⟨w.heap.size, 1, none⟩) (by show w.heap.size < W.heap.size; omega)).trans s4, (hb3.cell (p := ⟨w.heap.size, 2, none⟩) (by show w.heap.size < W.heap.size; omega)).trans s5⟩
  have hb2d : Below w.heap.size w w2.drew := hb2.drew
  clear cN
  go_wp2
  go_region_held3 (fun W => w2.heap.size ≤ W.heap.size ∧ Below w.heap.size w W ∧ W.cell? ⟨w.heap.size, 0, none⟩ = some (.int .i64 no) ∧ W.cell? ⟨w.heap.size, 1, none⟩ = some (.int .i64 line) ∧ W.cell? ⟨w.heap.size, 2, none⟩ = some (.int .i64 at_)) (first | exact ⟨by assumption, by assumption, by assumption, by assumption, by assumption⟩ | exact ⟨Nat.le_refl _, by assumption, by assumption, by assumption, by assumption⟩)
    (first | (go_at_call 10; refine (cNS _ ?_).mono ?_; (first | exact ⟨by assumption, by assumption, by assumption, by assumption, by assumption⟩ | exact ⟨Nat.le_refl _, by assumption, by assumption, by assumption, by assumption⟩); rintro e w3 ⟨rfl, s1, s2, s3, s4, s5⟩))
  all_goals go_wp2
  all_goals go_ret3
  all_goals exact ⟨rfl, s2⟩
set_option maxHeartbeats 4000000 in
set_option maxRecDepth 1000000 in
theorem at_fault (no line at_ : Int) (w : World) (h1 : 1 ≤ no) (h2 : no ≤ 25) (hg : w.cell? ⟨1, 0, none⟩ = some (.iface 127 (.agg #[.pointer (some ⟨4, 28, none⟩)]))) :
    Calls Tryz.prog 9 #[flt no line at_, .int .i64 no, .int .i64 line, .int .i64 at_] w fun e w' => e = .returned (.bool true) ∧ Below w.heap.size w w' := by
  have cP := place_fault no line at_ w h1 h2 hg
  have cN := num_fault no line at_
  have n0 : (no == 0) = false := beq_eq_false_iff_ne.2 (by omega)
  have e0 : (no == no) = true := by simp
  have e1 : (line == line) = true := by simp
  have e2 : (at_ == at_) = true := by simp
  clear hg
  go_enter Tryz.func9, Tryz.ntmps9
  go_wp2_with (first | (go_at_call 22; refine cP.mono ?_; rintro e w2 ⟨rfl, hb⟩) | (go_at_call 10; refine (cN _ h1 h2).mono ?_; rintro e w3 ⟨rfl, hb3⟩))
  go_ret
  exact ⟨rfl, hb.trans (hb3.mono hb.size)⟩
end Go.Proofs.YtekoeobfddfgpaaGreatDoor.E
set_option linter.unusedVariables false
set_option linter.unusedSimpArgs false
namespace Go.Proofs.YtekoeobfddfgpaaGreatDoor.C
open Go Go.RowKit Go.Proofs.YtekoeobfddfgpaaGreatDoor.M Go.Proofs.YtekoeobfddfgpaaGreatDoor.E
def HE (w : World) : Prop := w.cell? ⟨1, 0, none⟩ = some (.iface 127 (.agg #[.pointer (some ⟨4, 28, none⟩)]))
theorem HE.lt {w : World} (h : HE w) : 1 < w.heap.size := by
  rcases Nat.lt_or_ge 1 w.heap.size with h' | h'
  · exact h'
  · unfold HE at h
    simp [World.cell?, Array.getElem?_eq_none h'] at h
theorem HE.below {w w' : World} {B : Nat} (h : HE w) (hb : Below B w w') (hB : w.heap.size ≤ B) : HE w' :=
  (hb.cell (p := ⟨1, 0, none⟩) (by have := h.lt; show 1 < B; omega)).trans h
theorem Row.below {w w' : World} {base : Nat} {e : TypeId} {k : IntKind} {v : Value} {xs : List Int} (h : Row w base e k v xs) (hb : Below w.heap.size w w') : Row w' base e k v xs := by
  refine ⟨h.1, ?_⟩
  rcases h.2 with h | ⟨g, cap, cur, h1, h2, h3, h4⟩
  · exact .inl h
  · exact .inr ⟨g, cap, cur, h1, h2, (hb.block g (Array.getElem?_eq_some_iff.1 h3).1).trans h3, h4⟩
end Go.Proofs.YtekoeobfddfgpaaGreatDoor.C
set_option linter.unusedVariables false
set_option linter.unusedSimpArgs false
namespace Go.Proofs.YtekoeobfddfgpaaGreatDoor.C
open Go Go.RowKit Go.Proofs.YtekoeobfddfgpaaGreatDoor.M Go.Proofs.YtekoeobfddfgpaaGreatDoor.PAll Go.Proofs.YtekoeobfddfgpaaGreatDoorW.PrintWords
section
variable (s : ByteArray) (p : Nat) (hs : s.size ≤ 140737488351232)
include hs in
end
section
variable (s : ByteArray) (p : Nat) (hs : s.size ≤ 140737488351232) (hp : p < s.size)
include hs hp in
def chr (x : Nat) : Prop := x < 55296 ∨ 57344 ≤ x ∧ x ≤ 1114111
instance (x : Nat) : Decidable (chr x) := inferInstanceAs (Decidable (_ ∨ _))
include hs hp in
include hs hp in
end
end Go.Proofs.YtekoeobfddfgpaaGreatDoor.C
set_option linter.unusedVariables false
set_option linter.unusedSimpArgs false
namespace Go.Proofs.YtekoeobfddfgpaaGreatDoor.C
open Go Go.RowKit Go.Proofs.YtekoeobfddfgpaaGreatDoor.M Go.Proofs.YtekoeobfddfgpaaGreatDoor.E Go.Proofs.YtekoeobfddfgpaaGreatDoor.PAll Go.Proofs.YtekoeobfddfgpaaGreatDoorW.PrintWords
theorem cell_lt {w : World} {b o : Nat} {v : Value} (h : w.cell? ⟨b, o, none⟩ = some v) : b < w.heap.size := by
  rcases Nat.lt_or_ge b w.heap.size with h' | h'
  · exact h'
  · simp [World.cell?, Array.getElem?_eq_none h'] at h
theorem tabs_below {w w' : World} {g3 g4 B : Nat} (h : Lib.Utf8Tabs g3 g4 w) (hb : Below B w w') (hB : w.heap.size ≤ B) : Lib.Utf8Tabs g3 g4 w' := by
  have l3 := cell_lt (h.1 0 (by omega))
  have l4 := cell_lt (h.2 0 (by omega)).1
  exact ⟨fun c hc => (hb.cell (p := ⟨g3, c, none⟩) (by show g3 < B; omega)).trans (h.1 c hc), fun i hi => ⟨(hb.cell (p := ⟨g4, 2 * i, none⟩) (by show g4 < B; omega)).trans (h.2 i hi).1, (hb.cell (p := ⟨g4, 2 * i + 1, none⟩) (by show g4 < B; omega)).trans (h.2 i hi).2⟩⟩
end Go.Proofs.YtekoeobfddfgpaaGreatDoor.C
set_option linter.unusedVariables false
set_option linter.unusedSimpArgs false
namespace Go.Proofs.YtekoeobfddfgpaaGreatDoor.C
open Go Go.RowKit Go.Proofs.YtekoeobfddfgpaaGreatDoor.M Go.Proofs.YtekoeobfddfgpaaGreatDoor.E Go.Proofs.YtekoeobfddfgpaaGreatDoor.PAll Go.Proofs.YtekoeobfddfgpaaGreatDoorW.PrintWords
theorem Rd_of {w : World} {B : Nat} {k : IntKind} {A : Option Addr} {xs : List Int} (h : (Kd.int k).C w A xs.length xs) (hb : ∀ x, A = some x → x.block < B) : Rd w B k A xs := by
  obtain ⟨_, _, h3⟩ := h
  rcases Nat.eq_zero_or_pos xs.length with hz | hp
  · exact .inl (List.eq_nil_of_length_eq_zero hz)
  · obtain ⟨x, rfl, hc⟩ := h3 hp
    refine .inr ⟨x, rfl, hb x rfl, fun j u hj => ?_⟩
    obtain ⟨c, hcl, hcc, hcell⟩ := hc j u hj
    have e : c = [.int k u] := hcc
    subst e
    have := hcell 0 _ rfl
    simpa [Kd.int, Kd.scalar] using this
theorem R_rd {w : World} {e base : Nat} {ok : Nat → Prop} {k : IntKind} {v : Value} {xs : List Int} (h : (Kd.int k).R e w base ok v xs) : ∃ A c, v = .slice A xs.length c ∧ xs.length ≤ c ∧ Rd w w.heap.size k A xs := by
  obtain ⟨A, c, rfl, hl, hC⟩ := Kd.R_reads h
  refine ⟨A, c, rfl, hl, ?_⟩
  rcases Nat.eq_zero_or_pos xs.length with hz | hp
  · exact .inl (List.eq_nil_of_length_eq_zero hz)
  · obtain ⟨g, cap, he, hb, hlt, _⟩ := Kd.R_form h hp
    injection he with he _ _
    exact Rd_of hC (fun x hx => by rw [he] at hx; injection hx with hx; rw [← hx]; exact hlt)
theorem R_row {w : World} {e base : Nat} {ok : Nat → Prop} {k : IntKind} {v : Value} {xs : List Int} (h : (Kd.int k).R e w base ok v xs) : Row w base e k v xs := by
  obtain ⟨_, inner, ho, hr⟩ := h
  have e1 : inner = xs.map (Value.int k) := by
    have hl : inner.length = xs.length := by have := hr.1; simpa [Kd.int, Kd.scalar] using this
    refine List.ext_getElem? fun j => ?_
    rcases Nat.lt_or_ge j xs.length with hj | hj
    · have := hr.2 j xs[j] (List.getElem?_eq_getElem hj)
      have h2 : (inner.drop (j * 1)).take 1 = [.int k xs[j]] := this
      rw [Nat.mul_one] at h2
      have h3 := congrArg (·[0]?) h2
      simp only [List.getElem?_take, List.getElem?_drop] at h3
      simpa [List.getElem?_eq_getElem hj] using h3
    · rw [List.getElem?_eq_none (by omega), List.getElem?_eq_none (by simp; omega)]
  rw [e1] at ho
  exact ho
theorem cell_blk {w : World} {p : Addr} {v : Value} (h : w.cell? p = some v) : p.block < w.heap.size := by
  rcases Nat.lt_or_ge p.block w.heap.size with h' | h'
  · exact h'
  · simp [World.cell?, Array.getElem?_eq_none h'] at h
end Go.Proofs.YtekoeobfddfgpaaGreatDoor.C
set_option linter.unusedVariables false
set_option linter.unusedSimpArgs false
namespace Go.Proofs.YtekoeobfddfgpaaGreatDoor.C
open Go Go.RowKit Go.Proofs.YtekoeobfddfgpaaGreatDoor.M Go.Proofs.YtekoeobfddfgpaaGreatDoor.E Go.Proofs.YtekoeobfddfgpaaGreatDoor.PAll Go.Proofs.YtekoeobfddfgpaaGreatDoorW.PrintWords
end Go.Proofs.YtekoeobfddfgpaaGreatDoor.C
set_option linter.unusedVariables false
set_option linter.unusedSimpArgs false
namespace Go.Proofs.YtekoeobfddfgpaaGreatDoor.C
open Go Go.RowKit Go.Proofs.YtekoeobfddfgpaaGreatDoor.M Go.Proofs.YtekoeobfddfgpaaGreatDoor.E Go.Proofs.YtekoeobfddfgpaaGreatDoor.PAll Go.Proofs.YtekoeobfddfgpaaGreatDoorW.PrintWords
end Go.Proofs.YtekoeobfddfgpaaGreatDoor.C
set_option linter.unusedVariables false
set_option linter.unusedSimpArgs false
namespace Go.Proofs.YtekoeobfddfgpaaGreatDoor.C
open Go Go.RowKit Go.Proofs.YtekoeobfddfgpaaGreatDoor.M Go.Proofs.YtekoeobfddfgpaaGreatDoor.E Go.Proofs.YtekoeobfddfgpaaGreatDoor.PAll Go.Proofs.YtekoeobfddfgpaaGreatDoorW.PrintWords
end Go.Proofs.YtekoeobfddfgpaaGreatDoor.C
set_option linter.unusedVariables false
namespace Go.Proofs.YtekoeobfddfgpaaGreatDoor.Z
open Go Go.RowKit
structure Keeps (Z : Nat → Prop) (W W' : World) : Prop where
  os : W'.os = W.os
  tape : W'.tape = W.tape
  output : W'.output = W.output
  size : W.heap.size ≤ W'.heap.size
  block : ∀ k, k < W.heap.size → ¬ Z k → W'.heap[k]? = W.heap[k]?
theorem lt_of_obj {W : World} {k : Nat} {o : Obj} (h : W.heap[k]? = some o) : k < W.heap.size := (Array.getElem?_eq_some_iff.1 h).1
namespace Keeps
theorem refl (Z : Nat → Prop) (W : World) : Keeps Z W W := ⟨rfl, rfl, rfl, Nat.le_refl _, fun _ _ _ => rfl⟩
theorem mono {Z Z' : Nat → Prop} {W W' : World} (h : Keeps Z W W') (hz : ∀ k, k < W.heap.size → Z k → Z' k) : Keeps Z' W W' :=
  ⟨h.os, h.tape, h.output, h.size, fun k hk hn => h.block k hk (fun z => hn (hz k hk z))⟩
theorem trans {Z Z' : Nat → Prop} {A B C : World} (h : Keeps Z A B) (k : Keeps Z' B C) (hz : ∀ i, i < A.heap.size → Z' i → Z i) : Keeps Z A C :=
  ⟨k.os.trans h.os, k.tape.trans h.tape, k.output.trans h.output, Nat.le_trans h.size k.size,
    fun i hi hn => (k.block i (Nat.lt_of_lt_of_le hi h.size) (fun z => hn (hz i hi z))).trans (h.block i hi hn)⟩
theorem of_below {B : Nat} {Z : Nat → Prop} {W W' : World} (h : Below B W W') (hz : ∀ k, k < W.heap.size → B ≤ k → Z k) : Keeps Z W W' :=
  ⟨h.os, h.tape, h.output, h.size, fun k hk hn => h.block k (Nat.lt_of_not_le fun hb => hn (hz k hk hb))⟩
theorem below {B : Nat} {Z : Nat → Prop} {W W' : World} (h : Keeps Z W W') (hB : B ≤ W.heap.size) (hz : ∀ k, Z k → B ≤ k) : Below B W W' :=
  ⟨h.os, h.tape, h.output, h.size, fun k hk => h.block k (Nat.lt_of_lt_of_le hk hB) (fun z => by have := hz k z; omega)⟩
theorem of_grownBy {row : Option Nat} {Z : Nat → Prop} {W W' : World} (h : W.grownBy W' row) (hz : ∀ r, row = some r → Z r) : Keeps Z W W' :=
  ⟨h.os, h.tape, h.output, h.size, fun k hk hn => h.block k hk (fun e => hn (hz k e.symm))⟩
theorem alloc (Z : Nat → Prop) (W : World) (o : Obj) : Keeps Z W (W.alloc o) := of_grownBy (World.grownBy_alloc W o none) (fun _ e => by cases e)
theorem drew (Z : Nat → Prop) (W : World) : Keeps Z W W.drew := ⟨rfl, rfl, rfl, Nat.le_refl _, fun _ _ _ => rfl⟩
theorem setCell {Z : Nat → Prop} (W : World) (a : Addr) (v : Value) (h : Z a.block) : Keeps Z W (W.setCell a v) :=
  ⟨rfl, rfl, rfl, by show W.heap.size ≤ (W.heap.modify _ _).size; rw [Array.size_modify]; exact Nat.le_refl _, fun k _ hn => Below.heap_setCell W a v k (fun e => hn (by rw [e]; exact h))⟩
theorem obj {Z : Nat → Prop} {W W' : World} (h : Keeps Z W W') {k : Nat} {o : Obj} (ho : W.heap[k]? = some o) (hn : ¬ Z k) : W'.heap[k]? = some o := (h.block k (lt_of_obj ho) hn).trans ho
theorem cell {Z : Nat → Prop} {W W' : World} (h : Keeps Z W W') {a : Addr} {v : Value} (hc : W.cell? a = some v) (hn : ¬ Z a.block) : W'.cell? a = some v :=
  (World.cell?_of_block (h.block a.block (World.block_lt_of_cell? W a hc) hn)).trans hc
end Keeps
structure Step (X Z Z' : Nat → Prop) (W W' : World) : Prop where
  keeps : Keeps (fun k => Z k ∨ X k) W W'
  new : ∀ k, Z' k → Z k ∨ W.heap.size ≤ k
  lt : ∀ k, Z' k → k < W'.heap.size
def none' : Nat → Prop := fun _ => False
theorem Step.trans {X Z Z1 Z2 : Nat → Prop} {A B C : World} (h : Step X Z Z1 A B) (k : Step X Z1 Z2 B C) : Step X Z Z2 A C :=
  ⟨h.keeps.trans k.keeps (fun i hi z => z.elim (fun z1 => (h.new i z1).elim .inl (fun h' => by omega)) .inr),
    fun i z => (k.new i z).elim (fun z1 => h.new i z1) (fun h' => .inr (Nat.le_trans h.keeps.size h')), k.lt⟩
theorem Step.same {X Z : Nat → Prop} {W W' : World} (h : Keeps (fun k => Z k ∨ X k) W W') (hz : ∀ k, Z k → k < W.heap.size) : Step X Z Z W W' :=
  ⟨h, fun _ z => .inl z, fun k z => Nat.lt_of_lt_of_le (hz k z) h.size⟩
variable {P : Program}
end Go.Proofs.YtekoeobfddfgpaaGreatDoor.Z
set_option linter.unusedVariables false
set_option linter.unusedSimpArgs false
namespace Go.Proofs.YtekoeobfddfgpaaGreatDoor.C
open Go Go.RowKit Go.Shelf Go.Proofs.YtekoeobfddfgpaaGreatDoor.M Go.Proofs.YtekoeobfddfgpaaGreatDoor.Z
attribute [local go_sem] Oper.semAt_some
theorem Step.none {X Z : Nat → Prop} {W : World} (hz : ∀ k, Z k → k < W.heap.size) : Step X Z Z W W := Step.same (Keeps.refl _ _) hz
end Go.Proofs.YtekoeobfddfgpaaGreatDoor.C
set_option linter.unusedVariables false
set_option linter.unusedSimpArgs false
namespace Go.Proofs.YtekoeobfddfgpaaGreatDoor.C
open Go Go.RowKit Go.Proofs.YtekoeobfddfgpaaGreatDoor.M Go.Proofs.YtekoeobfddfgpaaGreatDoor.E
end Go.Proofs.YtekoeobfddfgpaaGreatDoor.C
set_option linter.unusedVariables false
set_option linter.unusedSimpArgs false
namespace Go.Proofs.YtekoeobfddfgpaaGreatDoor.C
open Go Go.RowKit Go.Shelf Go.Proofs.YtekoeobfddfgpaaGreatDoor.M Go.Proofs.YtekoeobfddfgpaaGreatDoor.Z
attribute [local go_sem] Oper.semAt_some
theorem cell_new_l (W : World) (v : Value) (t : TypeId) : (W.alloc (.cells #[v] t)).cell? ⟨W.heap.size, 0, none⟩ = some v ∧ (W.alloc (.cells #[v] t)).frozen? ⟨W.heap.size, 0, none⟩ = false :=
  ⟨cell_of_row _ _ _ _ _ _ (heap_alloc_new W (.cells #[v] t)), frozen_cells (heap_alloc_new W (.cells #[v] t)) 0⟩
theorem cell_alloc_l {W : World} {a : Addr} {v : Value} (o : Obj) (h : W.cell? a = some v) : (W.alloc o).cell? a = some v := (Keeps.alloc none' W o).cell h (fun h => h)
theorem Keeps.of_below0 {W W' : World} (h : Below W.heap.size W W') : Keeps none' W W' := Keeps.of_below h (fun k h1 h2 => by omega)
theorem frozen_keeps {Z : Nat → Prop} {W W' : World} (h : Keeps Z W W') {a : Addr} (hl : a.block < W.heap.size) (hn : ¬ Z a.block) : W'.frozen? a = W.frozen? a := World.frozen?_of_block (h.block a.block hl hn)
end Go.Proofs.YtekoeobfddfgpaaGreatDoor.C
set_option linter.unusedVariables false
set_option linter.unusedSimpArgs false
namespace Go.Proofs.YtekoeobfddfgpaaGreatDoor.C
open Go Go.RowKit Go.Shelf Go.Proofs.YtekoeobfddfgpaaGreatDoor.M Go.Proofs.YtekoeobfddfgpaaGreatDoor.Z
section
variable {P : Program} (w : World)
theorem run_append_str_lies (base : Nat) (t u ty e : TypeId) (i : TypeInfo) (ht : P.underlying t = some (.slice e)) (hu : P.underlying u = some .string) (hi : P.info? e = some i) (hz : i.zero = some (.int .u8 0))
    (hsize : i.size = 1) (hby : i.bytes = 1) (v : Value) (n : Nat) (xs : List Value) (hown : w.ownsRow base e 1 v n xs) (s : ByteArray)
    (h63 : n + s.size ≤ maxLen) (hbytes : n + s.size ≤ 140737488355328) (hbase : base ≤ w.heap.size) :
    ∃ v' w', (Builtin.append_ #[t, u] ty #[v, .string s]).run P w = .ok v' w' ∧ w'.ownsRow base e 1 v' (n + s.size) (xs ++ Lib.strCells s) ∧ w.grownBy w' v.ownBlock ∧
      (∀ g, v'.ownBlock = some g → v.ownBlock = some g ∨ g = w.heap.size) := by
  obtain ⟨v', w', hr, h2, h3, h4⟩ := Lib.run_append_own_string (P := P) w base t u ty e i ht hu hi hz hsize hby v n xs hown s h63 hbytes hbase
  refine ⟨v', w', hr, h2, h3, fun g hg => ?_⟩
  have hsmall : n + s.size ≤ 9223372036854775807 := by simp only [maxLen] at h63; omega
  have hxl : xs.length = n := by simpa using hown.1
  rcases hown.2 with ⟨rfl, rfl⟩ | ⟨b, cp, cur, rfl, hbg, hgg, hnc, hcm, hcs, htake⟩
  · by_cases hm : s.size = 0
    · rw [h4.2 ⟨rfl, hm⟩] at hg
      simp [Value.ownBlock] at hg
    · have hr' := run_append_nil_string (P := P) w t u ty e i (.int .u8 0) ht hu hi hz s (by omega) (by omega) (by rw [hby]; omega)
      rw [hr'] at hr
      injection hr with hv _
      subst hv
      right
      simpa [Value.ownBlock] using hg.symm
  · by_cases hroom : n + s.size ≤ cp
    · have hcs' : cur.size = cp := by simpa using hcs
      have hr' := Lib.run_append_room_string (P := P) w t u ty e i ht hu hi hsize b n cp cur hgg s hroom (by omega)
      rw [hr'] at hr
      injection hr with hv _
      subst hv
      left
      simpa [Value.ownBlock] using hg
    · have holds : ∀ j u, xs[j]? = some u → w.cell? ((⟨b, 0, none⟩ : Addr).add j) = some u := hown.cells (g := b) rfl
      have hr' := Lib.run_append_grow_string (P := P) w t u ty e i (.int .u8 0) ht hu hi hz ⟨b, 0, none⟩ n cp xs (by rw [hsize]; simpa using hxl) holds s (by omega) (by omega) (by rw [hby]; exact growslice_fits (by omega) (by omega))
      rw [hr'] at hr
      injection hr with hv _
      subst hv
      right
      simpa [Value.ownBlock] using hg.symm
theorem wpList_append_str_lies {ops : Array Oper} {rest : List Oper} {o : Oper} {a : Act} {Q : Exit → Act → World → Prop} (hgd : o.guard = none) (sl x : Operand) (t u : TypeId)
    (ho : o.op = .call { callee := .builtin .append, args := #[sl, x], argTypes := #[t, u] })
    (base : Nat) (e : TypeId) (i : TypeInfo) (ht : P.underlying t = some (.slice e)) (hu : P.underlying u = some .string) (hi : P.info? e = some i) (hz : i.zero = some (.int .u8 0))
    (hsize : i.size = 1) (hby : i.bytes = 1) (v : Value) (n : Nat) (xs : List Value) (hs : a.eval sl = v) (hown : w.ownsRow base e 1 v n xs) (s : ByteArray) (hx : a.eval x = .string s)
    (h63 : n + s.size ≤ maxLen) (hbytes : n + s.size ≤ 140737488355328) (hbase : base ≤ w.heap.size)
    (h : ∀ v' w', w'.ownsRow base e 1 v' (n + s.size) (xs ++ Lib.strCells s) → w.grownBy w' v.ownBlock → (∀ g, v'.ownBlock = some g → v.ownBlock = some g ∨ g = w.heap.size) → wpList P ops Q rest (a.put o.dst v') w') : wpList P ops Q (o :: rest) a w := by
  refine wpList_plain hgd fun K hK => ?_
  obtain ⟨v', w', hr, h2, h3, h4⟩ := run_append_str_lies (P := P) w base t u o.type e i ht hu hi hz hsize hby v n xs hown s h63 hbytes hbase
  unfold Oper.wp execOp
  simp only [ho, resolve, invoke, builtin, Sem.run_bind, Sem.run_pure, Result.andThen_ok, List.map_toArray, List.map_cons, List.map_nil, hs, hx, hr]
  exact hK _ _ (h v' w' h2 h3 h4)
end
structure Bd (w : World) (B b : Nat) (p v : Value) (bs : List UInt8) : Prop where
  le : B ≤ b
  blk : w.heap[b]? = some (.cells #[p, v] 90 (0, 0))
  p : p = .pointer none ∨ p = .pointer (some ⟨b, 0, none⟩)
  row : w.ownsRow B 5 1 v bs.length (bcells bs)
  ne : v.ownBlock ≠ some b
theorem owns_obj {w w' : World} {B n size : Nat} {e : TypeId} {v : Value} {xs : List Value} {Y : Nat → Prop} (h : w.ownsRow B e size v n xs) (hk : Keeps Y w w') (hv : ∀ g, v.ownBlock = some g → ¬ Y g) : w'.ownsRow B e size v n xs := by
  refine ⟨h.1, ?_⟩
  rcases h.2 with h | ⟨g, cap, cur, rfl, hb, hg, r⟩
  · exact .inl h
  · exact .inr ⟨g, cap, cur, rfl, hb, hk.obj hg (hv g (by simp [Value.ownBlock])), r⟩
set_option maxHeartbeats 1000000 in
theorem copycheck_any {w : World} {B b : Nat} {p v : Value} {bs : List UInt8} (h : Bd w B b p v bs) :
    Calls Tryz.prog 86 #[.pointer (some ⟨b, 0, none⟩)] w fun e w' => e = .returned (.tuple #[]) ∧ Bd w' B b (.pointer (some ⟨b, 0, none⟩)) v bs ∧ Keeps (fun k => k = b) w w' := by
  rcases h.p with rfl | rfl
  · have := Any.Builder_copyCheck_fresh (P := Tryz.prog) (ρ := Tryz.lays165_ren) { Tryz.lays165 with } Tryz.Builder_Extra_165.toX72 b w (cell_of_row _ _ _ _ _ _ h.blk) (by simp [World.shape?, h.blk]; rfl) (frozen_cells h.blk 0)
    refine Calls.mono this ?_
    rintro e w' ⟨rfl, rfl⟩
    have hk : Keeps (fun k => k = b) w (w.setCell ⟨b, 0, none⟩ (.pointer (some ⟨b, 0, none⟩))) := Keeps.setCell _ _ _ rfl
    exact ⟨rfl, ⟨h.le, cell_modify h.blk 0 _, .inr rfl, owns_obj h.row hk (fun g hg e => h.ne (by rw [hg, e])), h.ne⟩, hk⟩
  · have := Any.Builder_copyCheck_used (P := Tryz.prog) (ρ := Tryz.lays165_ren) { Tryz.lays165 with } Tryz.Builder_Extra_165.toX72 b w (cell_of_row _ _ _ _ _ _ h.blk)
    refine Calls.mono this ?_
    rintro e w' ⟨rfl, rfl⟩
    exact ⟨rfl, h, Keeps.refl _ _⟩
set_option maxHeartbeats 1000000 in
set_option maxRecDepth 100000 in
theorem writestr_any {w : World} {B b : Nat} {p v : Value} {bs : List UInt8} (h : Bd w B b p v bs) (s : ByteArray) (hlen : bs.length + s.size ≤ 140737488355328) (hB : B ≤ w.heap.size) :
    Calls Tryz.prog 57 #[.pointer (some ⟨b, 0, none⟩), .string s] w fun e w' => e = .returned (.tuple #[.int .i64 s.size, .nilIface]) ∧
      ∃ v', Bd w' B b (.pointer (some ⟨b, 0, none⟩)) v' (bs ++ bl s) ∧ Keeps (fun k => k = b ∨ v.ownBlock = some k) w w' ∧ ∀ g, v'.ownBlock = some g → v.ownBlock = some g ∨ w.heap.size ≤ g := by
  obtain ⟨i0, hi, hz0, hz1, hz2⟩ := info_parts Tryz.infoByte
  have cC := copycheck_any h
  go_enter Tryz.func57, Tryz.ntmps57
  go_wp2_with fail
  refine cC.mono ?_
  rintro e w1 ⟨rfl, h1, hk1⟩
  have c1 : w1.cell? ⟨b, 1, none⟩ = some v := cell_of_row _ _ _ _ _ _ h1.blk
  have hs1 := hk1.size
  go_wp2_with (at_builtin; refine wpList_append_str_lies _ rfl _ _ 61 9 rfl B 5 i0 Tryz.underlying61 Tryz.underlying9 hi hz0 hz1 hz2 v bs.length (bcells bs) rfl h1.row s rfl (by unfold maxLen; omega) hlen (by omega) ?_)
  intro v' w2 hown' hgrow hlies
  have hb1 : b < w1.heap.size := lt_of_obj h1.blk
  have hb2 : w2.heap[b]? = some (.cells #[.pointer (some ⟨b, 0, none⟩), v] 90 (0, 0)) := (hgrow.block b hb1 (fun e => h1.ne e.symm)).trans h1.blk
  have d1 : w2.cell? ⟨b, 1, none⟩ = some v := cell_of_row _ _ _ _ _ _ hb2
  have f1 : w2.frozen? ⟨b, 1, none⟩ = false := frozen_cells hb2 1
  have hne' : v'.ownBlock ≠ some b := fun e => (hlies b e).elim (fun e => h1.ne e) (fun e => by omega)
  have hown2 : w2.ownsRow B 5 1 v' (bs ++ bl s).length (bcells (bs ++ bl s)) := by
    rw [List.length_append, bl_len, bcells_append]; exact hown'
  have hsz2 := hgrow.size
  have hres : ∀ ao n' cap, v' = .slice ao n' cap → Bd (w2.setCell ⟨b, 1, none⟩ v') B b (.pointer (some ⟨b, 0, none⟩)) v' (bs ++ bl s) ∧ Keeps (fun k => k = b ∨ v.ownBlock = some k) w (w2.setCell ⟨b, 1, none⟩ v') ∧ ∀ g, v'.ownBlock = some g → v.ownBlock = some g ∨ w.heap.size ≤ g := fun ao n' cap _ => by
    have hk3 : Keeps (fun k => k = b) w2 (w2.setCell ⟨b, 1, none⟩ v') := Keeps.setCell _ _ _ rfl
    refine ⟨⟨h.le, cell_modify hb2 1 _, .inr rfl, owns_obj hown2 hk3 (fun g hg e => hne' (by rw [hg, e])), hne'⟩, ?_, fun g hg => (hlies g hg).imp id (fun e => by omega)⟩
    refine ((hk1.mono (fun _ _ e => .inl e)).trans (Keeps.of_grownBy (Z := fun k => v.ownBlock = some k) hgrow (fun r e => e)) (fun _ _ e => .inr e)).trans hk3 (fun _ _ e => .inl e)
  obtain ⟨ao, n', cap, rfl⟩ : ∃ ao n' cap, v' = .slice ao n' cap := by
    rcases hown'.2 with ⟨hv, _⟩ | ⟨g, cap, cur, hv, _⟩
    · exact ⟨_, _, _, hv⟩
    · exact ⟨_, _, _, hv⟩
  have Hr := Lib.hid (hres ao n' cap rfl)
  clear hres hown' hown2 hlies hne' hgrow h1 hk1 cC
  go_wp2
  go_ret2
  exact ⟨rfl, _, Hr.out⟩
end Go.Proofs.YtekoeobfddfgpaaGreatDoor.C
set_option linter.unusedVariables false
set_option linter.unusedSimpArgs false
namespace Go.Proofs.YtekoeobfddfgpaaGreatDoor.C
open Go Go.RowKit Go.Shelf Go.Proofs.YtekoeobfddfgpaaGreatDoor.M Go.Proofs.YtekoeobfddfgpaaGreatDoor.Z
attribute [local go_sem] Oper.semAt_some
end Go.Proofs.YtekoeobfddfgpaaGreatDoor.C
set_option linter.unusedVariables false
set_option linter.unusedSimpArgs false
namespace Go.Proofs.YtekoeobfddfgpaaGreatDoor.C
open Go Go.RowKit Go.Shelf Go.Proofs.YtekoeobfddfgpaaGreatDoor.M Go.Proofs.YtekoeobfddfgpaaGreatDoor.Z Go.Proofs.YtekoeobfddfgpaaGreatDoor.PAll Go.Proofs.YtekoeobfddfgpaaGreatDoorW.PrintWords
end Go.Proofs.YtekoeobfddfgpaaGreatDoor.C
