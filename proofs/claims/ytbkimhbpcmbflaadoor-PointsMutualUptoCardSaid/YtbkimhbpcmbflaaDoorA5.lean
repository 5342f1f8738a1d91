/-
  errors.As at an api.Fault; glossarykit.Num, Place, At at an api.Fault and at nil.
-/
import Derived.Test.YtbkimhbpcmbflaaDoorA4
import Derived.Laws.Tables
import Derived.Laws.Rows
set_option linter.unusedVariables false
set_option linter.unusedSimpArgs false
namespace Go.Proofs.YtbkimhbpcmbflaaDoor.E
open Go Go.RowKit Go.Extern.Stop Go.Stop Go.Extern

theorem setF (T b : Nat) (old : Array Value) (x y z : Value) (W : World) (hx : x.oneCell' = true) (hy : y.oneCell' = true) (hz : z.oneCell' = true)
    (hb : W.heap[b]? = some (.cells #[x, y, z] 81 (0, 0))) (hT : W.heap[T]? = some (.cells old 81 (0, 0))) (ho : old.size = 3) :
    (ReflectliteValue.set #[.agg #[.pointer (some ⟨4, 81, none⟩), .pointer (some ⟨T, 0, none⟩), .int .u64 409], .agg #[.pointer (some ⟨4, 81, none⟩), .pointer (some ⟨b, 0, none⟩), .int .u64 153]]).run Tryd.prog W
      = .ok (.tuple #[]) (W.setRow T #[x, y, z]) := by
  have h1 := run_loadVar_row (P := Tryd.prog) W b 81 81 #[x, y, z] (0, 0) _ hb Tryd.underlying81 rfl sizeF
  have h2 := run_storeVar_row (P := Tryd.prog) W T 81 81 old #[x, y, z] hT sizeF (by rw [ho]; rfl) (by simp [hx, hy, hz])
  rw [rls]
  simp only [Sem.run_bind, partsFa, partsF, Result.andThen]
  simp [ReflectliteValue.flagAddr, h1, h2, directF, Result.andThen]

/-- what errors.As leaves -/
structure AsPost (T : Nat) (x y z : Value) (w : World) (e : Ending) (w' : World) : Prop where
  ret : e = .returned (.bool true)
  blk : w'.heap[T]? = some (.cells #[x, y, z] 81 (0, 0))
  grown : w.grownBy w' (some T)

set_option maxHeartbeats 4000000 in
set_option maxRecDepth 1000000 in
theorem as_fault (T : Nat) (old : Array Value) (no line at_ : Int) (w : World) (hg : w.cell? ⟨2, 0, none⟩ = some (.iface 146 (.agg #[.pointer (some ⟨4, 33, none⟩)])))
    (hT : w.heap[T]? = some (.cells old 81 (0, 0))) (ho : old.size = 3) :
    Calls Tryd.prog 113 #[flt no line at_, .iface 107 (.pointer (some ⟨T, 0, none⟩))] w (AsPost T (.int .i64 no) (.int .i64 line) (.int .i64 at_) w) := by
  have e1 := @run_callFunc_extern Tryd.prog 125 _ (fun args => ReflectliteValue.unpack (args.getD 0 (.tuple #[]))) Tryd.func125 (by kernel_rfl) (by kernel_rfl) (by kernel_rfl) (by kernel_rfl)
  have e2 := @run_callFunc_extern Tryd.prog 126 _ (ReflectliteValue.methodAny (ReflectliteValue.valueError "reflectlite.Value.Type" 0) (fun t _ _ _ => ReflectliteType.toType t)) Tryd.func126 (by kernel_rfl) (by kernel_rfl) (by kernel_rfl) (by kernel_rfl)
  have e3 := @run_callFunc_extern Tryd.prog 127 _ (ReflectliteValue.method (ReflectliteValue.valueError "reflectlite.Value.IsNil" 0) ReflectliteValue.isNil) Tryd.func127 (by kernel_rfl) (by kernel_rfl) (by kernel_rfl) (by kernel_rfl)
  have e4 := @run_callFunc_extern Tryd.prog 152 _ (ReflectliteType.abiMethod fun t => do pure (.int .u8 (← Rtype.kind t))) Tryd.func152 (by kernel_rfl) (by kernel_rfl) (by kernel_rfl) (by kernel_rfl)
  have e5 := @run_callFunc_extern Tryd.prog 165 _ (ReflectliteType.method ReflectliteType.elem) Tryd.func165 (by kernel_rfl) (by kernel_rfl) (by kernel_rfl) (by kernel_rfl)
  have e6 := @run_callFunc_extern Tryd.prog 166 _ (ReflectliteType.relation "Implements" ReflectliteType.implements_) Tryd.func166 (by kernel_rfl) (by kernel_rfl) (by kernel_rfl) (by kernel_rfl)
  have e7 := @run_callFunc_extern Tryd.prog 129 _ ReflectliteType.typeOf Tryd.func129 (by kernel_rfl) (by kernel_rfl) (by kernel_rfl) (by kernel_rfl)
  have e8 := @run_callFunc_extern Tryd.prog 163 _ (ReflectliteType.relation "AssignableTo" ReflectliteType.assignableTo) Tryd.func163 (by kernel_rfl) (by kernel_rfl) (by kernel_rfl) (by kernel_rfl)
  have e9 := @run_callFunc_extern Tryd.prog 135 _ (ReflectliteValue.method (ReflectliteValue.valueError "reflectlite.Value.Elem" 0) ReflectliteValue.elem) Tryd.func135 (by kernel_rfl) (by kernel_rfl) (by kernel_rfl) (by kernel_rfl)
  have e10 := @run_callFunc_extern Tryd.prog 136 _ ReflectliteValue.set Tryd.func136 (by kernel_rfl) (by kernel_rfl) (by kernel_rfl) (by kernel_rfl)
  have f1 := valueOfP
  have f2 := typeP
  have f3 := methodKind
  have f4 := methodElem
  have f5 := methodImplements
  have f6 := methodAssignableTo
  have f7 := kindP
  have f8 := kindF
  have f9 := elemP
  have f10 := implementsF
  have f11 := typeOfF
  have f12 := assignableF
  have f13 := valueOfF
  have hlt : 2 < w.heap.size := by
    rcases Nat.lt_or_ge 2 w.heap.size with h | h
    · exact h
    · simp [World.cell?, Array.getElem?_eq_none h] at hg
  have hTl : T < w.heap.size := (Array.getElem?_eq_some_iff.1 hT).1
  obtain ⟨t, ht⟩ : ∃ t : Addr, t = ⟨T, 0, none⟩ := ⟨_, rfl⟩
  rw [← ht]
  let w1 := w.alloc (.cells #[.pointer (some t)] 107)
  let w2 := w1.alloc (.cells #[.pointer (some ⟨4, 107, none⟩), .pointer (some ⟨w.heap.size, 0, none⟩), .int .u64 150] 127)
  let w3 := w2.alloc (.cells #[.pointer (some ⟨4, 107, none⟩), .pointer (some ⟨w.heap.size, 0, none⟩), .int .u64 150] 127)
  let w4 := w3.alloc (.cells #[.int .i64 no, .int .i64 line, .int .i64 at_] 81)
  have b1 : Below w.heap.size w w1 := (Below.refl _ _).alloc (Nat.le_refl _) _
  have b2 : Below w.heap.size w w2 := b1.alloc (by simp [w1]) _
  have b3 : Below w.heap.size w w3 := b2.alloc (by simp [w2, w1]; omega) _
  have b4 : Below w.heap.size w w4 := b3.alloc (by simp [w3, w2, w1]; omega) _
  have n8 := isNilP ⟨w.heap.size, 0, none⟩ t w2 (by simp [w2, w1])
  have hg2 : w2.cell? ⟨2, 0, none⟩ = _ := (b2.cell (p := ⟨2, 0, none⟩) hlt).trans hg
  have el := elemVP ⟨w.heap.size, 0, none⟩ t w3 (by
    have : w3.cell? ⟨w.heap.size, 0, none⟩ = w2.cell? ⟨w.heap.size, 0, none⟩ := World.cell?_alloc_lt _ _ ⟨w.heap.size, 0, none⟩ (by simp [w2, w1]; omega)
    rw [this]; simp [w2, w1])
  have hT4 : w4.heap[T]? = some (.cells old 81 (0, 0)) := (b4.block T hTl).trans hT
  have hb4 : w4.heap[w.heap.size + 1 + 1 + 1]? = some (.cells #[.int .i64 no, .int .i64 line, .int .i64 at_] 81 (0, 0)) := by
    have e : w3.heap.size = w.heap.size + 1 + 1 + 1 := by simp [w3, w2, w1]
    rw [← e]
    exact heap_alloc_new w3 (.cells #[.int .i64 no, .int .i64 line, .int .i64 at_] 81)
  have st := setF T (w.heap.size + 1 + 1 + 1) old (.int .i64 no) (.int .i64 line) (.int .i64 at_) w4 rfl rfl rfl hb4 hT4 ho
  rw [← ht] at st
  have hgr : w.grownBy (w4.setRow T #[.int .i64 no, .int .i64 line, .int .i64 at_]) (some T) := by
    refine ⟨b4.os, b4.tape, b4.output, ?_, fun k hk hne => ?_⟩
    · have := b4.size
      simpa [World.setRow] using this
    · have hkT : ¬ T = k := fun e => hne (by rw [e])
      have : (w4.setRow T #[.int .i64 no, .int .i64 line, .int .i64 at_]).heap[k]? = w4.heap[k]? := by
        unfold World.setRow
        rw [Array.getElem?_modify, if_neg hkT]
      rw [this]
      exact b4.block k hk
  have hbk : (w4.setRow T #[.int .i64 no, .int .i64 line, .int .i64 at_]).heap[T]? = some (.cells #[.int .i64 no, .int .i64 line, .int .i64 at_] 81 (0, 0)) := by
    unfold World.setRow
    rw [Array.getElem?_modify, if_pos rfl, hT4]
    rfl
  have Hgr := Lib.hid hgr
  have Hbk := Lib.hid hbk
  clear hgr hbk b1 b2 b3 b4 hT4 hb4 ht hg hT
  simp only [w4, w3, w2, w1] at n8 hg2 el st Hgr Hbk
  clear w4 w3 w2 w1
  go_enter Tryd.func113, Tryd.ntmps113
  go_wp2
  refine wp_loop_rounds 1 ?_
  rw [rounds_succ]
  go_wp2
  go_ret
  exact ⟨rfl, Hbk.out, Hgr.out⟩
end Go.Proofs.YtbkimhbpcmbflaaDoor.E
