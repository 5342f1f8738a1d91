/-
  The statement UtfEncodes, walked.
-/
import Derived.Test.YtbkimhbpcmbflaaDoorQ4
import Derived.Deep.RegionHeld3
set_option linter.unusedVariables false
set_option linter.unusedSimpArgs false
namespace Go.Proofs.YtbkimhbpcmbflaaDoor.C
open Go Go.RowKit Go.Shelf Go.Proofs.YtbkimhbpcmbflaaDoor.M Go.Proofs.YtbkimhbpcmbflaaDoor.PAll Go.Proofs.YtbkimhbpcmbflaaDoorW.PrintWords

theorem Rd.front {w : World} {B : Nat} {k : IntKind} {A : Option Addr} {xs ys : List Int} (h : Rd w B k A (xs ++ ys)) : Rd w B k A xs := by
  rcases h with h | ⟨x, rfl, hb, hc⟩
  · exact .inl (List.append_eq_nil_iff.1 h).1
  · exact .inr ⟨x, rfl, hb, fun j u hj => hc j u (by rw [List.getElem?_append_left (List.getElem?_eq_some_iff.1 hj).1]; exact hj)⟩
theorem runesBytes_E : ∀ (xs : List Int) (r : ByteArray), bl (xs.foldl (fun r n => r ++ Utf8.encode n) r) = bl r ++ textE xs
  | [], r => by simp [textE]
  | x :: xs, r => by
    rw [List.foldl_cons, runesBytes_E xs _]
    have e : bl (r ++ Utf8.encode x) = bl r ++ bl (Utf8.encode x) := by unfold bl; simp
    rw [e, List.append_assoc]
    rfl
/-- Go's own conversion of any list of numbers into a text -/
theorem text_convE (W : World) (B : Nat) (A : Option Addr) (cap : Nat) (xs : List Int) (hR : Rd W B .i32 A xs) :
    (convert 22 9 (.slice A xs.length cap)).run Tryd.prog W = .ok (.string ⟨(textE xs).toArray⟩) W := by
  have e0 : runesBytes xs = ⟨(textE xs).toArray⟩ := ba_ext (by
    show bl (runesBytes xs) = textE xs
    unfold runesBytes
    rw [runesBytes_E xs _]
    rfl)
  have key : ∀ x : Addr, (∀ j u, xs[j]? = some u → W.cell? (x.add j) = some (.int .i32 u)) → (convert 22 9 (.slice (some x) xs.length cap)).run Tryd.prog W = .ok (.string ⟨(textE xs).toArray⟩) W := fun x hc => by
    have := run_convert_runes (P := Tryd.prog) W 22 9 21 x xs.length cap xs (Nat.le_refl _) Tryd.underlying22 Tryd.underlying21 Tryd.underlying9 (fun j hj => by
      rw [hc j _ (List.getElem?_eq_getElem hj), List.getD_eq_getElem?_getD, List.getElem?_eq_getElem hj]; rfl)
    rw [List.take_of_length_le (Nat.le_refl _), e0] at this
    exact this
  rcases hR with rfl | ⟨x, rfl, hb, hc⟩
  · cases A with
    | none => exact run_convert_runes_nil (P := Tryd.prog) W 22 9 21 0 cap Tryd.underlying22 Tryd.underlying21 Tryd.underlying9
    | some x => exact key x (fun j u hj => by simp at hj)
  · exact key x hc
/-- utf.Text -/
theorem textfn_any (xs : List Int) (A : Option Addr) (cap : Nat) (W : World) (B : Nat) (hR : Rd W B .i32 A xs) :
    Calls Tryd.prog 47 #[.slice A xs.length cap] W fun e w' => e = .returned (.string ⟨(textE xs).toArray⟩) ∧ Below W.heap.size W w' := by
  have hc := text_convE W B A cap xs hR
  generalize (⟨(textE xs).toArray⟩ : ByteArray) = T at hc ⊢
  generalize xs.length = n at hc ⊢
  clear hR
  go_enter Tryd.func47, Tryd.ntmps47
  go_wp2
  go_ret
  exact ⟨rfl, Below.refl _ _⟩
set_option maxHeartbeats 1000000 in
set_option maxRecDepth 100000 in
theorem UtfEncodes_of (w : World) (hT : Tabs w) (r : Int) (A : Option Addr) (cap : Nat) (xs : List Int) (hl : xs.length ≤ 35184372087808) (hR : Rd w w.heap.size .i32 A xs) (hcap : xs.length ≤ cap) :
    Calls Tryd.prog 11 #[.int .i32 r, .slice A xs.length cap] w fun e w' => e = .returned (.bool true) ∧ Below w.heap.size w w' := by
  have c1 := lent_any w A cap xs (by omega) hR hcap
  obtain ⟨kt, hkt⟩ := text01_ref xs hl
  have c2 : ∀ W, Below w.heap.size w W → Calls Tryd.prog 44 #[.slice A xs.length cap] W fun e w' => e = .returned (.string ⟨(textE xs).toArray⟩) ∧ Below W.heap.size W w' := fun W h =>
    (glossaryref01_Text.calls kt A cap xs _ W (C_of (hR.below h (Nat.le_refl _)) (by omega)) hcap hkt)
  have c3 : ∀ W, Calls Tryd.prog 45 #[.int .i32 r] W fun e w' => e = .returned (.string (Utf8.encode r)) ∧ Below W.heap.size W w' := fun W =>
    (encodefn_any r W).mono fun e w' ⟨he, hb⟩ => ⟨he, by subst hb; exact Below.refl _ _⟩
  have eE : (⟨(eb r).toArray⟩ : ByteArray) = Utf8.encode r := ba_ext rfl
  have c4 : ∀ W, Calls Tryd.prog 46 #[.int .i32 r] W fun e w' => e = .returned (.string (Utf8.encode r)) ∧ Below W.heap.size W w' := fun W =>
    (glossaryref01_Encode.calls 1 r _ W (enc01_ref 0 r)).mono fun e w' ⟨he, hb⟩ => ⟨by rw [he, eE], hb⟩
  have c5 : ∀ W, Below w.heap.size w W → (convert 22 9 (.slice A xs.length cap)).run Tryd.prog W = .ok (.string ⟨(textE xs).toArray⟩) W := fun W h =>
    text_convE W _ A cap xs (hR.below h (Nat.le_refl _))
  have c6 : ∀ (w1 : World) (A' : Option Addr) (c' : Nat), Rd w1 w1.heap.size .i32 A' (xs ++ marks 16 0) → xs.length + 16 ≤ c' → Below w.heap.size w w1 → ∀ W, Below w1.heap.size w1 W →
      Calls Tryd.prog 47 #[.slice A' xs.length c'] W fun e w' => e = .returned (.string ⟨(textE xs).toArray⟩) ∧ Below W.heap.size W w' := fun w1 A' c' hrd hc' hb1 W h =>
    textfn_any xs A' c' W _ ((hrd.front).below h (Nat.le_refl _))
  have c7 : ∀ (w1 : World) (A' : Option Addr) (c' : Nat), Rd w1 w1.heap.size .i32 A' (xs ++ marks 16 0) → xs.length + 16 ≤ c' → Below w.heap.size w w1 → ∀ W, Below w1.heap.size w1 W →
      Calls Tryd.prog 32 #[.slice A' xs.length c', .slice A xs.length cap] W fun e w' => e = .returned (.bool true) ∧ Below W.heap.size W w' := fun w1 A' c' hrd hc' hb1 W h =>
    (kept_any W A A' cap c' xs (by omega) ((hR.below (hb1.trans (h.mono hb1.size)) (Nat.le_refl _)).more (Nat.le_trans hb1.size h.size)) ((hrd.below h (Nat.le_refl _)).more h.size) hcap hc')
  have c8 := fun W (h : Below w.heap.size w W) => works01_any W (tabs_below hT h (Nat.le_refl _))
  obtain ⟨E, hE⟩ : ∃ E, Utf8.encode r = E := ⟨_, rfl⟩
  have hq : (E.toList == (Utf8.encode r).toList) = true := by rw [hE]; exact beq_self_eq_true _
  rw [hE] at c3 c4
  clear eE hE
  generalize (⟨(textE xs).toArray⟩ : ByteArray) = T at c2 c5 c6
  generalize xs ++ marks 16 0 = ys at c1 c6 c7
  generalize xs.length = n at *
  clear hkt hT hR hl
  go_enter Tryd.func11, Tryd.ntmps11
  go_wp2_with fail
  refine c1.mono ?_
  rintro e w1 ⟨A', c', rfl, hc', hrd, b1⟩
  have d6 := c6 w1 A' c' hrd hc' b1
  have d7 := c7 w1 A' c' hrd hc' b1
  clear c6 c7 c1
  go_wp2_with fail
  refine (c2 _ b1).mono ?_
  rintro e w2 ⟨rfl, b2⟩
  have s2 : Below w1.heap.size w1 w2 := b2
  have t2 : Below w.heap.size w w2 := b1.trans (b2.mono b1.size)
  have e3 : ∀ W, (Below w1.heap.size w1 W ∧ Below w.heap.size w W) → Calls Tryd.prog 45 #[.int .i32 r] W fun e w' => e = .returned (.string E) ∧ (Below w1.heap.size w1 w' ∧ Below w.heap.size w w') := fun W ⟨h1, h2⟩ =>
    (c3 W).mono fun e w' ⟨he, hb⟩ => ⟨he, h1.trans (hb.mono h1.size), h2.trans (hb.mono h2.size)⟩
  have e4 : ∀ W, (Below w1.heap.size w1 W ∧ Below w.heap.size w W) → Calls Tryd.prog 46 #[.int .i32 r] W fun e w' => e = .returned (.string E) ∧ (Below w1.heap.size w1 w' ∧ Below w.heap.size w w') := fun W ⟨h1, h2⟩ =>
    (c4 W).mono fun e w' ⟨he, hb⟩ => ⟨he, h1.trans (hb.mono h1.size), h2.trans (hb.mono h2.size)⟩
  have e6 : ∀ W, (Below w1.heap.size w1 W ∧ Below w.heap.size w W) → Calls Tryd.prog 47 #[.slice A' n c'] W fun e w' => e = .returned (.string T) ∧ (Below w1.heap.size w1 w' ∧ Below w.heap.size w w') := fun W ⟨h1, h2⟩ =>
    (d6 W h1).mono fun e w' ⟨he, hb⟩ => ⟨he, h1.trans (hb.mono h1.size), h2.trans (hb.mono h2.size)⟩
  clear c3 c4 d6 c2 b2 hrd hcap hc'
  have s2d : Below w1.heap.size w1 w2.drew := s2.drew
  have t2d : Below w.heap.size w w2.drew := t2.drew
  go_wp2_with fail
  go_region_held3 (fun W => Below w1.heap.size w1 W ∧ Below w.heap.size w W) (first | exact ⟨by assumption, by assumption⟩)
    (first | (go_at_call 45; refine (e3 _ ?_).mono ?_; (first | exact ⟨by assumption, by assumption⟩); rintro e w3 ⟨rfl, s3, t3⟩) | (go_at_call 46; refine (e4 _ ?_).mono ?_; (first | exact ⟨by assumption, by assumption⟩); rintro e w3 ⟨rfl, s3, t3⟩) | (go_at_call 47; refine (e6 _ ?_).mono ?_; (first | exact ⟨by assumption, by assumption⟩); rintro e w3 ⟨rfl, s3, t3⟩))
  have v3 := ‹Below w1.heap.size w1 _ ∧ Below w.heap.size w _›
  clear e3 e4 e6 c5 s2d t2d s2 t2
  go_wp2_with fail
  refine (d7 _ (by assumption)).mono ?_
  rintro e w4 ⟨rfl, b4⟩
  have t4 : Below w.heap.size w w4 := Below.trans (by assumption) (b4.mono (Below.size (by assumption)))
  go_wp2_with fail
  refine (c8 _ t4).mono ?_
  rintro e w5 ⟨rfl, b5⟩
  go_wp2
  go_ret
  exact ⟨rfl, t4.trans (b5.mono t4.size)⟩
theorem law_UtfEncodes (w : World) (hT : Lib.Utf8Tabs 0 1 w) (r : Int) (hr : (Lit.int .i32 r).wf = true) (a : Option Addr) (len cap : Nat) (zs : List Int) (h : IsRow .i32 w a len cap zs) (hy : len * 4 ≤ 140737488351232) :
    Calls Tryd.prog 11 #[.int .i32 r, .slice a len cap] w fun e w' => e = .returned (.bool true) ∧ Below w.heap.size w w' := by
  obtain ⟨hl, hR, hc, hw⟩ := h.rd
  have := UtfEncodes_of w hT r a cap (zs.take len) (by omega) hR (by omega)
  rw [hl] at this
  exact this
end Go.Proofs.YtbkimhbpcmbflaaDoor.C
