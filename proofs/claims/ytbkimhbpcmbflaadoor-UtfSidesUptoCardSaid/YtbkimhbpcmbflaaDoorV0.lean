/-
  utf.Before and utf.Text without the reference's answers: what UtfSides and its like want (the same lemmas stand in Q3, Q4, U9, U10: never import both).
-/
import Derived.Test.YtbkimhbpcmbflaaDoorUU
set_option linter.unusedVariables false
set_option linter.unusedSimpArgs false
namespace Go.Proofs.YtbkimhbpcmbflaaDoor.C
open Go Go.RowKit Go.Shelf Go.Proofs.YtbkimhbpcmbflaaDoor.M Go.Proofs.YtbkimhbpcmbflaaDoor.PAll Go.Proofs.YtbkimhbpcmbflaaDoorW.PrintWords

def befU (l : List UInt8) (a : Int) : Int × Int := if a < 1 ∨ (l.length : Int) < a then (65533, 0) else (((Lib.decodeLastL (l.take a.toNat)).1 : Nat), ((Lib.decodeLastL (l.take a.toNat)).2 : Nat))
set_option maxHeartbeats 1000000 in
set_option maxRecDepth 100000 in
/-- utf.Before -/
theorem beforefn_any (s : ByteArray) (a : Int) (w : World) (hT : Tabs w) (hs : s.size ≤ 140737488351232) :
    Calls Tryd.prog 73 #[.string s, .int .i64 a] w fun e w' => e = .returned (.tuple #[.int .i32 (befU (bl s) a).1, .int .i64 (befU (bl s) a).2]) ∧ Below w.heap.size w w' := by
  have hbl := bl_len s
  by_cases h : a < 1 ∨ (s.size : Int) < a
  · have e : befU (bl s) a = (65533, 0) := by unfold befU; rw [hbl, if_pos h]
    rw [e]
    clear e hbl
    by_cases h1 : a < 1
    · clear h
      go_enter Tryd.func73, Tryd.ntmps73
      go_wp2
      go_ret2
      exact ⟨rfl, Below.refl _ _⟩
    · have h2 : (s.size : Int) < a := by omega
      have h1' : 1 ≤ a := by omega
      have h1b : decide (a < 1) = false := by simp; omega
      clear h h1
      go_enter Tryd.func73, Tryd.ntmps73
      go_wp2
      go_ret2
      exact ⟨rfl, Below.refl _ _⟩
  · obtain ⟨p, rfl⟩ : ∃ p : Nat, a = p := ⟨a.toNat, by omega⟩
    have h1 : (1 : Int) ≤ (p : Int) := by omega
    have h2 : (p : Int) ≤ s.size := by omega
    have h1b : decide ((p : Int) < 1) = false := by simp; omega
    have h2b : decide ((s.size : Int) < (p : Int)) = false := by simp; omega
    have e : befU (bl s) (p : Int) = ((((Lib.decodeLastL ((bl s).take p)).1 : Nat) : Int), (((Lib.decodeLastL ((bl s).take p)).2 : Nat) : Int)) := by unfold befU; rw [hbl, if_neg h, Int.toNat_natCast]
    have hx : bl (s.extract 0 p) = (bl s).take p := by rw [bl_cut (by omega), List.drop_zero]
    have cL := Tryd.utf8_DecodeLastRuneInString (s.extract 0 p) w (by simp; omega) hT
    have hx2 : (s.extract 0 p).data.toList = (bl s).take p := hx
    rw [hx2] at cL
    rw [e]
    obtain ⟨c, hc⟩ : ∃ c, (Lib.decodeLastL ((bl s).take p)).1 = c := ⟨_, rfl⟩
    obtain ⟨d, hd⟩ : ∃ d, (Lib.decodeLastL ((bl s).take p)).2 = d := ⟨_, rfl⟩
    rw [hc, hd] at cL ⊢
    clear e hx hx2 hc hd h hbl
    go_enter Tryd.func73, Tryd.ntmps73
    go_wp2_with fail
    refine cL.mono ?_
    rintro e w1 ⟨rfl, hb⟩
    go_wp2
    go_ret2
    exact ⟨rfl, hb⟩
def eb (x : Int) : List UInt8 := (Utf8.encode x).data.toList
theorem eb_ok {c : Nat} (h : okc c) : eb (c : Int) = enc c := rfl
theorem eb_bad {x : Int} (h : Lib.validRune x = false) : eb x = eb 65533 := by
  have e : Utf8.valid x = false := by
    unfold Lib.validRune at h; unfold Utf8.valid; simp at h ⊢; omega
  unfold eb Utf8.encode
  simp only [e, Bool.false_eq_true, if_false]
  decide
theorem eb_len (x : Int) : (eb x).length ≤ 4 := by
  by_cases hv : Lib.validRune x = true
  · have := pb_len x
    unfold pb at this
    rw [if_pos hv] at this
    exact this
  · rw [eb_bad (by simpa using hv)]
    decide
def textE (xs : List Int) : List UInt8 := xs.flatMap eb
theorem runesBytes_E : ∀ (xs : List Int) (r : ByteArray), bl (xs.foldl (fun r n => r ++ Utf8.encode n) r) = bl r ++ textE xs
  | [], r => by simp [textE]
  | x :: xs, r => by
    rw [List.foldl_cons, runesBytes_E xs _]
    have e : bl (r ++ Utf8.encode x) = bl r ++ bl (Utf8.encode x) := by unfold bl; simp
    rw [e, List.append_assoc]
    rfl
/-- Go's own conversion of any list of numbers into a text -/
theorem text_convE (W : World) (B : Nat) (A : Option Addr) (cap : Nat) (xs : List Int) (hR : Rd W B .i32 A xs) :
    (convert 22 9 (.slice A xs.length cap)).run Tryd.prog W = .ok (.string ⟨(textE xs).toArray⟩) W := by
  have e0 : runesBytes xs = ⟨(textE xs).toArray⟩ := ba_ext (by
    show bl (runesBytes xs) = textE xs
    unfold runesBytes
    rw [runesBytes_E xs _]
    rfl)
  have key : ∀ x : Addr, (∀ j u, xs[j]? = some u → W.cell? (x.add j) = some (.int .i32 u)) → (convert 22 9 (.slice (some x) xs.length cap)).run Tryd.prog W = .ok (.string ⟨(textE xs).toArray⟩) W := fun x hc => by
    have := run_convert_runes (P := Tryd.prog) W 22 9 21 x xs.length cap xs (Nat.le_refl _) Tryd.underlying22 Tryd.underlying21 Tryd.underlying9 (fun j hj => by
      rw [hc j _ (List.getElem?_eq_getElem hj), List.getD_eq_getElem?_getD, List.getElem?_eq_getElem hj]; rfl)
    rw [List.take_of_length_le (Nat.le_refl _), e0] at this
    exact this
  rcases hR with rfl | ⟨x, rfl, hb, hc⟩
  · cases A with
    | none => exact run_convert_runes_nil (P := Tryd.prog) W 22 9 21 0 cap Tryd.underlying22 Tryd.underlying21 Tryd.underlying9
    | some x => exact key x (fun j u hj => by simp at hj)
  · exact key x hc
/-- utf.Text -/
theorem textfn_any (xs : List Int) (A : Option Addr) (cap : Nat) (W : World) (B : Nat) (hR : Rd W B .i32 A xs) :
    Calls Tryd.prog 47 #[.slice A xs.length cap] W fun e w' => e = .returned (.string ⟨(textE xs).toArray⟩) ∧ Below W.heap.size W w' := by
  have hc := text_convE W B A cap xs hR
  generalize (⟨(textE xs).toArray⟩ : ByteArray) = T at hc ⊢
  generalize xs.length = n at hc ⊢
  clear hR
  go_enter Tryd.func47, Tryd.ntmps47
  go_wp2
  go_ret
  exact ⟨rfl, Below.refl _ _⟩
end Go.Proofs.YtbkimhbpcmbflaaDoor.C
