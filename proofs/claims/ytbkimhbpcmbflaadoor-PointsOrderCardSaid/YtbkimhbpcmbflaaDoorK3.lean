/-
  The kit's LentRunes and KeptRunes; the statement PointsText, walked.
-/
import Derived.Test.YtbkimhbpcmbflaaDoorK2
set_option linter.unusedVariables false
set_option linter.unusedSimpArgs false
namespace Go.Proofs.YtbkimhbpcmbflaaDoor.C
open Go Go.RowKit Go.Proofs.YtbkimhbpcmbflaaDoor.M Go.Proofs.YtbkimhbpcmbflaaDoor.E Go.Proofs.YtbkimhbpcmbflaaDoor.PAll Go.Proofs.YtbkimhbpcmbflaaDoorW.PrintWords

theorem slice_to {P : Program} (t e : TypeId) {i : TypeInfo} (ht : P.underlying t = some (.slice e)) (hi : P.info? e = some i) (hsz : i.size = 1) (A : Option Addr) (n c j : Nat) (hj : j ≤ c) (W : World) :
    (Instr.slice t (.slice A n c) none (some (.int .i64 (j : Int))) none).run P W = .ok (.slice A j c) W := by
  have hel : P.elem t = e := by simp [Program.elem, ht]
  have hu : P.underlying t = some (.slice (P.elem t)) := by rw [hel]; exact ht
  have ha : (A.map fun x => x.add 0) = A := by cases A <;> simp [Addr.add]
  rw [run_slice_h W t A n c hu .i64 j (by omega) (by omega), hel]
  simp [sizeOf, typeInfo, hi, hsz, sliced, Result.andThen, ha]
theorem Tryd.info32 : (Tryd.prog.info? 21).map (fun i => (i.zero, i.size, i.bytes)) = some (some (.int .i32 0), 1, 4) := by kernel_rfl

set_option maxHeartbeats 4000000 in
set_option maxRecDepth 1000000 in
theorem lent_any (w : World) (A : Option Addr) (cap : Nat) (xs : List Int) (hl : xs.length + 16 < 35184372088832) (hR : Rd w w.heap.size .i32 A xs) (hcap : xs.length ≤ cap) :
    Calls Tryd.prog 30 #[.slice A xs.length cap] w fun e w' => ∃ A' c', e = .returned (.slice A' xs.length c') ∧ xs.length + 16 ≤ c' ∧ Rd w' w'.heap.size .i32 A' (xs ++ marks 16 0) ∧ Below w.heap.size w w' := by
  obtain ⟨k, hk⟩ := full_ref xs hl
  obtain ⟨i0, hi, hz0, hz1, hz2⟩ := info_parts Tryd.info32
  have hml : (xs ++ marks 16 0).length = xs.length + 16 := by rw [List.length_append, marks_len]
  have c1 : ∀ W : World, Rd W W.heap.size .i32 A xs → Calls Tryd.prog 80 #[.slice A xs.length cap] W fun e w' => ∃ A' m c', e = .returned (.slice A' m c') ∧ xs.length + 16 ≤ c' ∧ Rd w' w'.heap.size .i32 A' (xs ++ marks 16 0) ∧ Below W.heap.size W w' := fun W hR =>
    (glossarykit_FullRunes.calls k A cap xs _ W (C_of hR (by omega)) hcap hk).mono fun e w' ⟨v, he, hr, hb⟩ => by
      obtain ⟨A', c', rfl, hle, hrd⟩ := R_rd hr
      exact ⟨A', _, c', he, by omega, hrd, hb⟩
  have hsl : ∀ (A' : Option Addr) (m c' : Nat) (W : World), xs.length + 16 ≤ c' → (Instr.slice 22 (.slice A' m c') none (some (.int .i64 (xs.length : Int))) none).run Tryd.prog W = .ok (.slice A' xs.length c') W := fun A' m c' W h =>
    slice_to 22 21 Tryd.underlying22 hi hz1 A' m c' xs.length (by omega) W
  obtain ⟨n, hn⟩ : ∃ n, xs.length = n := ⟨_, rfl⟩
  rw [hn] at c1 hsl ⊢
  generalize xs ++ marks 16 0 = ys at c1
  clear hn hml hk
  go_enter Tryd.func30, Tryd.ntmps30
  go_wp2_with (first | (go_at_call 80; refine (c1 _ hR).mono ?_; rintro e w1 ⟨A', m, c', rfl, hc', hrd, hb1⟩; have hs1 := fun W => hsl A' m c' W hc'))
  all_goals go_ret
  exact ⟨A', c', rfl, hc', hrd, hb1⟩

set_option maxHeartbeats 4000000 in
set_option maxRecDepth 1000000 in
theorem kept_any (w : World) (A A' : Option Addr) (cap c' : Nat) (xs : List Int) (hl : xs.length + 16 < 35184372088832) (hR : Rd w w.heap.size .i32 A xs) (hR' : Rd w w.heap.size .i32 A' (xs ++ marks 16 0)) (hcap : xs.length ≤ cap) (hc' : xs.length + 16 ≤ c') :
    Calls Tryd.prog 32 #[.slice A' xs.length c', .slice A xs.length cap] w fun e w' => e = .returned (.bool true) ∧ Below w.heap.size w w' := by
  obtain ⟨k, hk⟩ := kept_ref xs hl
  obtain ⟨i0, hi, hz0, hz1, hz2⟩ := info_parts Tryd.info32
  have hml : (xs ++ marks 16 0).length = xs.length + 16 := by rw [List.length_append, marks_len]
  have c1 : ∀ W : World, Below w.heap.size w W → Calls Tryd.prog 82 #[.slice A' (xs.length + 16) c', .slice A xs.length cap] W fun e w' => e = .returned (.bool true) ∧ Below w.heap.size w w' := fun W hW => by
    have := glossarykit_KeptFullRunes.calls k A' c' (xs ++ marks 16 0) A cap xs true W (C_of (hR'.below hW (Nat.le_refl _)) (by omega)) (by omega) (C_of (hR.below hW (Nat.le_refl _)) (by omega)) hcap hk
    rw [hml] at this
    exact this.mono fun e w' ⟨he, hd⟩ => ⟨he, hW.trans (hd.below.mono hW.size)⟩
  have hsl : ∀ (W : World), (Instr.slice 22 (.slice A' xs.length c') none (some (.int .i64 ((xs.length + 16 : Nat) : Int))) none).run Tryd.prog W = .ok (.slice A' (xs.length + 16) c') W := fun W =>
    slice_to 22 21 Tryd.underlying22 hi hz1 A' xs.length c' (xs.length + 16) hc' W
  obtain ⟨n, hn⟩ : ∃ n, xs.length = n := ⟨_, rfl⟩
  rw [hn] at c1 hsl hl hc' ⊢
  have hw16 : wrap64 ((n : Int) + 16) = ((n + 16 : Nat) : Int) := by rw [w64 (by omega) (by omega)]; omega
  clear hn hml hk
  go_enter Tryd.func32, Tryd.ntmps32
  go_wp2_with (first | (go_at_call 82; refine (c1 _ (by first | exact Below.refl _ _ | exact (Below.refl _ _).drew)).mono ?_; rintro e w1 ⟨rfl, hb1⟩))
  all_goals go_ret
  exact ⟨rfl, hb1⟩

theorem first_bad : ∀ xs : List Int, (∀ x ∈ xs, isPt x = true) ∨ ∃ p x, xs[p]? = some x ∧ isPt x = false ∧ ∀ y ∈ xs.take p, isPt y = true
  | [] => .inl (by simp)
  | a :: xs => by
    cases ha : isPt a with
    | false => exact .inr ⟨0, a, rfl, ha, by simp⟩
    | true =>
      rcases first_bad xs with h | ⟨p, x, h1, h2, h3⟩
      · left; intro y hy; rcases List.mem_cons.1 hy with rfl | hy
        · exact ha
        · exact h y hy
      · right
        refine ⟨p + 1, x, h1, h2, fun y hy => ?_⟩
        rw [List.take_succ_cons] at hy
        rcases List.mem_cons.1 hy with rfl | hy
        · exact ha
        · exact h3 y hy
theorem bad_unique {xs : List Int} {p q : Nat} {x y : Int} (hp : xs[p]? = some x) (hx : isPt x = false) (hpa : ∀ y ∈ xs.take p, isPt y = true) (hq : xs[q]? = some y) (hy : isPt y = false) (hqa : ∀ y ∈ xs.take q, isPt y = true) : p = q := by
  rcases Nat.lt_trichotomy p q with h | h | h
  · have := hqa x (List.mem_of_getElem? (i := p) (by rw [List.getElem?_take, if_pos h]; exact hp))
    rw [hx] at this; cases this
  · exact h
  · have := hpa y (List.mem_of_getElem? (i := q) (by rw [List.getElem?_take, if_pos h]; exact hq))
    rw [hy] at this; cases this
theorem wf32 {x : Int} (h : (Lit.int .i32 x).wf = true) : -2147483648 ≤ x ∧ x ≤ 2147483647 := by
  simpa [Lit.wf, IntKind.min, IntKind.max, IntKind.signed, IntKind.bits] using h

set_option maxHeartbeats 4000000 in
set_option maxRecDepth 1000000 in
theorem PointsText_of (w : World) (hE : HE w) (A : Option Addr) (cap : Nat) (xs : List Int) (hl : xs.length ≤ 35184372087808) (hx : ∀ x ∈ xs, -2147483648 ≤ x ∧ x ≤ 2147483647) (hR : Rd w w.heap.size .i32 A xs) (hcap : xs.length ≤ cap) :
    Calls Tryd.prog 4 #[.slice A xs.length cap] w fun e w' => e = .returned (.bool true) ∧ Below w.heap.size w w' := by
  have cT := fun (W : World) (A' : Option Addr) (c' : Nat) (hR' : Rd W W.heap.size .i32 A' xs) => text_any W A' c' xs hl hx hR'
  have cL := fun (W : World) (hR' : Rd W W.heap.size .i32 A xs) => lent_any W A cap xs (by omega) hR' hcap
  have cK := fun (W : World) (A' : Option Addr) (c' : Nat) (h1 : Rd W W.heap.size .i32 A xs) (h2 : Rd W W.heap.size .i32 A' (xs ++ marks 16 0)) (h3 : xs.length + 16 ≤ c') => kept_any W A A' cap c' xs (by omega) h1 h2 hcap h3
  have hpre : ∀ (W : World) (A' : Option Addr), Rd W W.heap.size .i32 A' (xs ++ marks 16 0) → Rd W W.heap.size .i32 A' xs := fun W A' h => by
    rcases h with h | ⟨x, rfl, hb, hc⟩
    · have := congrArg List.length h
      rw [List.length_append, marks_len] at this
      simp at this
    · exact .inr ⟨x, rfl, hb, fun j u hj => hc j u (by rw [List.getElem?_append_left (List.getElem?_eq_some_iff.1 hj).1]; exact hj)⟩
  rcases first_bad xs with hall | ⟨p, x, hp, hbad, hpa⟩
  · obtain ⟨k, hk⟩ := text_ref_ok xs hl hx hall
    have cR := fun (W : World) (hR' : Rd W W.heap.size .i32 A xs) => glossaryref02_Text.calls k A cap xs _ _ W (C_of hR' (by omega)) hcap hk
    have cT2 := fun (W : World) (A' : Option Addr) (c' : Nat) (hR' : Rd W W.heap.size .i32 A' xs) => (cT W A' c' hR').mono (R' := fun e w' => e = .returned (.tuple #[.string ⟨(textP xs).toArray⟩, .nilIface]) ∧ Below W.heap.size W w') (fun e w' ⟨h, hb⟩ => by
      refine ⟨?_, hb⟩
      rcases h with ⟨_, h⟩ | ⟨q, y, hq, hy, _, _⟩
      · exact h
      · have := hall y (List.mem_of_getElem? hq); rw [hy] at this; cases this)
    generalize (⟨(textP xs).toArray⟩ : ByteArray) = t at cR cT2
    obtain ⟨n, hn⟩ : ∃ n, xs.length = n := ⟨_, rfl⟩
    rw [hn] at cR cT2 cL cK ⊢
    clear cT hl hx hcap hk hall hn
    go_enter Tryd.func4, Tryd.ntmps4
    go_wp2_with (first | (go_at_call 29; refine (cR _ hR).mono ?_; rintro e w1 ⟨rfl, hb1⟩))
    have hR1 := (hR.below hb1 (Nat.le_refl _)).more hb1.size
    go_wp2_with (first | (go_at_call 30; refine (cL _ hR1).mono ?_; rintro e w2 ⟨A', c', rfl, hc', hrd, hb2⟩))
    have hR2 := (hR1.below hb2 (Nat.le_refl _)).more hb2.size
    have hb12 := hb1.trans (hb2.mono hb1.size)
    go_wp2_with (first | (go_at_call 31; refine (cT2 _ _ _ (hpre _ _ hrd)).mono ?_; rintro e w3 ⟨rfl, hb3⟩))
    have hR3 := (hR2.below hb3 (Nat.le_refl _)).more hb3.size
    have hrd3 := (hrd.below hb3 (Nat.le_refl _)).more hb3.size
    have hb13 := hb12.trans (hb3.mono hb12.size)
    go_wp2_with (first | (go_at_call 32; refine (cK _ _ _ hR3 hrd3 hc').mono ?_; rintro e w4 ⟨rfl, hb4⟩))
    have hb14 := hb13.trans (hb4.mono hb13.size)
    have hE4 : HE w4 := hE.below hb14 (Nat.le_refl _)
    go_wp2_with (first | (go_at_call 28; refine (works_any _ hE4).mono ?_; rintro e w5 ⟨rfl, hb5⟩))
    all_goals go_ret
    exact ⟨rfl, hb14.trans (hb5.mono hb14.size)⟩
  · have hplt := (List.getElem?_eq_some_iff.1 hp).1
    obtain ⟨k, hk⟩ := text_ref_bad xs hl hx p x hp hbad hpa
    have cR := fun (W : World) (hR' : Rd W W.heap.size .i32 A xs) => glossaryref02_Text.calls k A cap xs _ _ W (C_of hR' (by omega)) hcap hk
    have cT2 := fun (W : World) (A' : Option Addr) (c' : Nat) (hR' : Rd W W.heap.size .i32 A' xs) => (cT W A' c' hR').mono (R' := fun e w' => e = .returned (.tuple #[.string ⟨#[]⟩, flt 8 0 (p : Nat)]) ∧ Below W.heap.size W w') (fun e w' ⟨h, hb⟩ => by
      refine ⟨?_, hb⟩
      rcases h with ⟨h, _⟩ | ⟨q, y, hq, hy, hqa, h⟩
      · have := h x (List.mem_of_getElem? hp); rw [hbad] at this; cases this
      · have e := bad_unique hp hbad hpa hq hy hqa
        rw [h, e])
    have cA := fun (W : World) (h : HE W) => at_fault 8 0 (p : Nat) W (by decide) (by decide) h
    obtain ⟨n, hn⟩ : ∃ n, xs.length = n := ⟨_, rfl⟩
    rw [hn] at cR cT2 cL cK ⊢
    clear cT hl hx hcap hk hpa hp hbad hplt hn
    go_enter Tryd.func4, Tryd.ntmps4
    go_wp2_with (first | (go_at_call 29; refine (cR _ hR).mono ?_; rintro e w1 ⟨rfl, hb1⟩))
    have hR1 := (hR.below hb1 (Nat.le_refl _)).more hb1.size
    go_wp2_with (first | (go_at_call 30; refine (cL _ hR1).mono ?_; rintro e w2 ⟨A', c', rfl, hc', hrd, hb2⟩))
    have hR2 := (hR1.below hb2 (Nat.le_refl _)).more hb2.size
    have hb12 := hb1.trans (hb2.mono hb1.size)
    go_wp2_with (first | (go_at_call 31; refine (cT2 _ _ _ (hpre _ _ hrd)).mono ?_; rintro e w3 ⟨rfl, hb3⟩))
    have hR3 := (hR2.below hb3 (Nat.le_refl _)).more hb3.size
    have hrd3 := (hrd.below hb3 (Nat.le_refl _)).more hb3.size
    have hb13 := hb12.trans (hb3.mono hb12.size)
    go_wp2_with (first | (go_at_call 32; refine (cK _ _ _ hR3 hrd3 hc').mono ?_; rintro e w4 ⟨rfl, hb4⟩))
    have hb14 := hb13.trans (hb4.mono hb13.size)
    have hE4 : HE w4 := hE.below hb14 (Nat.le_refl _)
    go_wp2_with (first | (go_at_call 33; refine (cA _ hE4).mono ?_; rintro e w5 ⟨rfl, hb5⟩))
    have hb15 := hb14.trans (hb5.mono hb14.size)
    have hE5 : HE w5 := hE.below hb15 (Nat.le_refl _)
    go_wp2_with (first | (go_at_call 28; refine (works_any _ hE5).mono ?_; rintro e w6 ⟨rfl, hb6⟩))
    all_goals go_ret
    exact ⟨rfl, hb15.trans (hb6.mono hb15.size)⟩

theorem law_PointsText (w : World) (hE : HE w) (a : Option Addr) (len cap : Nat) (zs : List Int) (h : IsRow .i32 w a len cap zs) (hy : len * 4 ≤ 140737488351232) :
    Calls Tryd.prog 4 #[.slice a len cap] w fun e w' => e = .returned (.bool true) ∧ Below w.heap.size w w' := by
  obtain ⟨hl, hR, hc, hw⟩ := h.rd
  have := PointsText_of w hE a cap (zs.take len) (by omega) (fun x hx => wf32 (hw x hx)) hR (by omega)
  rw [hl] at this
  exact this
end Go.Proofs.YtbkimhbpcmbflaaDoor.C
