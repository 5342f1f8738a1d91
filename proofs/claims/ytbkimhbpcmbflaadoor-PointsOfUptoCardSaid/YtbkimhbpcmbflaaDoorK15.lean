/-
  The statement PointsOf, walked.
-/
import Derived.Test.YtbkimhbpcmbflaaDoorGA
import Derived.Test.YtbkimhbpcmbflaaDoorK14
set_option linter.unusedVariables false
set_option linter.unusedSimpArgs false
namespace Go.Proofs.YtbkimhbpcmbflaaDoor.C
open Go Go.RowKit Go.Proofs.YtbkimhbpcmbflaaDoor.M Go.Proofs.YtbkimhbpcmbflaaDoor.E Go.Proofs.YtbkimhbpcmbflaaDoor.PAll Go.Proofs.YtbkimhbpcmbflaaDoorW.PrintWords

theorem refOf_any (s : ByteArray) (hs : s.size ≤ 1048576) (W : World) : Calls Tryd.prog 24 #[.string s] W fun e w' => ∃ A c, e = .returned (.slice A (pts (bl s)).length c) ∧ (pts (bl s)).length ≤ c ∧ Rd w' w'.heap.size .i32 A (pts (bl s)) ∧ Below W.heap.size W w' := by
  obtain ⟨k, hk⟩ := of_ref s (by omega)
  refine (glossaryref02_Of.calls k s _ W hk).mono fun e w' ⟨v, he, hr, hb⟩ => ?_
  obtain ⟨A, c, rfl, hc, hrd⟩ := R_rd hr
  exact ⟨A, c, he, hc, hrd, hb⟩
theorem ofRow_any (s : ByteArray) (hs : s.size ≤ 1048576) (W : World) : Calls Tryd.prog 25 #[.string s] W fun e w' => ∃ A c, e = .returned (.slice A (pts (bl s)).length c) ∧ (pts (bl s)).length ≤ c ∧ Rd w' w'.heap.size .i32 A (pts (bl s)) ∧
    w'.ownsRow W.heap.size 21 1 (.slice A (pts (bl s)).length c) (pts (bl s)).length (cI (pts (bl s))) ∧ Below W.heap.size W w' := by
  have h1 := sfx_len (bl s)
  rw [bl_len] at h1
  refine (of_any s W (by omega) (by omega)).mono fun e w' ⟨v, he, hr, hb⟩ => ?_
  obtain ⟨A, c, rfl, hc, hrd⟩ := hr.reads
  exact ⟨A, c, he, hc, hrd, hr, hb⟩
theorem owns_below {w w' : World} {base B size n : Nat} {e : TypeId} {v : Value} {xs : List Value} (h : w.ownsRow base e size v n xs) (hb : Below B w w') (hB : w.heap.size ≤ B) : w'.ownsRow base e size v n xs :=
  h.kept (row := none) ⟨hb.os, hb.tape, hb.output, hb.size, fun k hk _ => hb.block k (by omega)⟩ (by cases v.ownBlock <;> simp)
/-- a list of the call's own, and where it lies -/
structure Ow (W : World) (lo hi : Nat) (A : Option Addr) (n c : Nat) : Prop where
  row : ∃ xs : List Int, W.ownsRow lo 21 1 (.slice A n c) n (cI xs)
  le : ∀ b, (Value.slice A n c).ownBlock = some b → lo ≤ b ∧ b < hi
theorem Ow.of {W : World} {lo n c : Nat} {A : Option Addr} {xs : List Int} (h : W.ownsRow lo 21 1 (.slice A n c) n (cI xs)) : Ow W lo W.heap.size A n c := ⟨⟨xs, h⟩, fun b hb => h.lt b hb⟩
theorem Ow.next {W W' : World} {lo hi n c : Nat} {A : Option Addr} (h : Ow W lo hi A n c) (hb : Below W.heap.size W W') : Ow W' lo hi A n c := by
  obtain ⟨⟨xs, h1⟩, h2⟩ := h
  exact ⟨⟨xs, owns_below h1 hb (Nat.le_refl _)⟩, h2⟩
theorem Ow.alloc {W : World} {lo hi n c : Nat} {A : Option Addr} (h : Ow W lo hi A n c) (o : Obj) : Ow (W.alloc o) lo hi A n c := by
  obtain ⟨⟨xs, h1⟩, h2⟩ := h
  exact ⟨⟨xs, h1.alloc o⟩, h2⟩
theorem owns_mono {w : World} {base base' size n : Nat} {e : TypeId} {v : Value} {xs : List Value} (h : w.ownsRow base e size v n xs) (hb : base' ≤ base) : w.ownsRow base' e size v n xs := by
  refine ⟨h.1, ?_⟩
  rcases h.2 with h | ⟨g, cap, cur, h1, h2, h3⟩
  · exact .inl h
  · exact .inr ⟨g, cap, cur, h1, by omega, h3⟩
theorem apart4 (W : World) (b0 b1 b2 b3 b4 : Nat) (A1 A2 A3 A4 : Option Addr) (n1 n2 n3 n4 c1 c2 c3 c4 : Nat) (hb : b0 ≤ b1 ∧ b1 ≤ b2 ∧ b2 ≤ b3 ∧ b3 ≤ b4 ∧ b4 ≤ W.heap.size)
    (h1 : Ow W b0 b1 A1 n1 c1) (h2 : Ow W b1 b2 A2 n2 c2) (h3 : Ow W b2 b3 A3 n3 c3) (h4 : Ow W b3 b4 A4 n4 c4) (hn1 : n1 ≤ 1048576) (hn2 : n2 ≤ 1048576) (hn3 : n3 ≤ 1048576) (hn4 : n4 ≤ 1048576) :
    Calls Tryd.prog 27 #[.slice (some ⟨W.heap.size, 0, none⟩) 4 4] (W.alloc (.cells #[.slice A1 n1 c1, .slice A2 n2 c2, .slice A3 n3 c3, .slice A4 n4 c4] 22)) fun e w' => e = .returned (.bool true) ∧ Below b0 W w' := by
  have hblk := heap_alloc_new W (.cells #[.slice A1 n1 c1, .slice A2 n2 c2, .slice A3 n3 c3, .slice A4 n4 c4] 22)
  have hb0 : Below b0 W (W.alloc (.cells #[.slice A1 n1 c1, .slice A2 n2 c2, .slice A3 n3 c3, .slice A4 n4 c4] 22)) := (Below.refl _ _).alloc (by omega) _
  have k1 := h1.alloc (.cells #[.slice A1 n1 c1, .slice A2 n2 c2, .slice A3 n3 c3, .slice A4 n4 c4] 22)
  have k2 := h2.alloc (.cells #[.slice A1 n1 c1, .slice A2 n2 c2, .slice A3 n3 c3, .slice A4 n4 c4] 22)
  have k3 := h3.alloc (.cells #[.slice A1 n1 c1, .slice A2 n2 c2, .slice A3 n3 c3, .slice A4 n4 c4] 22)
  have k4 := h4.alloc (.cells #[.slice A1 n1 c1, .slice A2 n2 c2, .slice A3 n3 c3, .slice A4 n4 c4] 22)
  have hs : (W.alloc (.cells #[.slice A1 n1 c1, .slice A2 n2 c2, .slice A3 n3 c3, .slice A4 n4 c4] 22)).heap.size = W.heap.size + 1 := by simp
  generalize W.alloc (.cells #[.slice A1 n1 c1, .slice A2 n2 c2, .slice A3 n3 c3, .slice A4 n4 c4] 22) = W1 at *
  refine (apart_any W1 b0 W.heap.size 4 (fun j => [A1, A2, A3, A4].getD j none) (fun j => [n1, n2, n3, n4].getD j 0) (fun j => [c1, c2, c3, c4].getD j 0) (fun b => if b < b1 then 0 else if b < b2 then 1 else if b < b3 then 2 else if b < b4 then 3 else 100) (by decide) (by decide) ?_ ?_).mono ?_
  · intro j hj
    match j, hj with
    | 0, _ => exact hn1
    | 1, _ => exact hn2
    | 2, _ => exact hn3
    | 3, _ => exact hn4
  · refine ⟨Below.refl _ _, by omega, by omega, ?_, ?_, ?_, ?_⟩
    · intro j hj
      rw [cell_of_row _ _ _ _ _ _ hblk]
      match j, hj with
      | 0, _ => rfl
      | 1, _ => rfl
      | 2, _ => rfl
      | 3, _ => rfl
    · show (if W.heap.size < b1 then 0 else if W.heap.size < b2 then 1 else if W.heap.size < b3 then 2 else if W.heap.size < b4 then 3 else 100) = 100
      rw [if_neg (by omega), if_neg (by omega), if_neg (by omega), if_neg (by omega)]
    · intro j hj
      match j, hj with
      | 0, _ => obtain ⟨xs, h⟩ := k1.row; exact ⟨xs, h, fun t ht => by omega⟩
      | 1, _ => obtain ⟨xs, h⟩ := k2.row; exact ⟨xs, owns_mono h (by omega), fun t ht => by omega⟩
      | 2, _ => obtain ⟨xs, h⟩ := k3.row; exact ⟨xs, owns_mono h (by omega), fun t ht => by omega⟩
      | 3, _ => obtain ⟨xs, h⟩ := k4.row; exact ⟨xs, owns_mono h (by omega), fun t ht => by omega⟩
    · intro j hj b hbb
      match j, hj with
      | 0, _ => have := k1.le b hbb; show (if b < b1 then 0 else if b < b2 then 1 else if b < b3 then 2 else if b < b4 then 3 else 100) = 0; rw [if_pos (by omega)]
      | 1, _ => have := k2.le b hbb; show (if b < b1 then 0 else if b < b2 then 1 else if b < b3 then 2 else if b < b4 then 3 else 100) = 1; rw [if_neg (by omega), if_pos (by omega)]
      | 2, _ => have := k3.le b hbb; show (if b < b1 then 0 else if b < b2 then 1 else if b < b3 then 2 else if b < b4 then 3 else 100) = 2; rw [if_neg (by omega), if_neg (by omega), if_pos (by omega)]
      | 3, _ => have := k4.le b hbb; show (if b < b1 then 0 else if b < b2 then 1 else if b < b3 then 2 else if b < b4 then 3 else 100) = 3; rw [if_neg (by omega), if_neg (by omega), if_neg (by omega), if_pos (by omega)]
  · rintro e w' ⟨he, hb'⟩
    exact ⟨he, hb0.trans hb'⟩

set_option maxHeartbeats 4000000 in
set_option maxRecDepth 1000000 in
theorem law_PointsOf (w : World) (hE : HE w) (s : ByteArray) (hs0 : s.size ≤ 140737488351232) (hs : s.size ≤ 1048576) (t : ByteArray) (ht0 : t.size ≤ 140737488351232) (ht : t.size ≤ 1048576) :
    Calls Tryd.prog 3 #[.string s, .string t] w fun e w' => e = .returned (.bool true) ∧ Below w.heap.size w w' := by
  have hps := pts_len (bl s)
  have hpt := pts_len (bl t)
  rw [bl_len] at hps hpt
  have cR := fun W => refOf_any s hs W
  have cRt := fun W => refOf_any t ht W
  have cO := fun W => ofRow_any s hs W
  have cOt := fun W => ofRow_any t ht W
  have cS := fun (W : World) (A1 A2 : Option Addr) (c1 c2 : Nat) (h1 : Rd W W.heap.size .i32 A1 (pts (bl s))) (h2 : Rd W W.heap.size .i32 A2 (pts (bl s))) (hc1 : (pts (bl s)).length ≤ c1) (hc2 : (pts (bl s)).length ≤ c2) => same_any (pts (bl s)) (by omega) W A1 A2 c1 c2 h1 h2 hc1 hc2
  have cSt := fun (W : World) (A1 A2 : Option Addr) (c1 c2 : Nat) (h1 : Rd W W.heap.size .i32 A1 (pts (bl t))) (h2 : Rd W W.heap.size .i32 A2 (pts (bl t))) (hc1 : (pts (bl t)).length ≤ c1) (hc2 : (pts (bl t)).length ≤ c2) => same_any (pts (bl t)) (by omega) W A1 A2 c1 c2 h1 h2 hc1 hc2
  have hns : (pts (bl s)).length ≤ 1048576 := by omega
  have hnt : (pts (bl t)).length ≤ 1048576 := by omega
  clear hps hpt
  generalize hn : (pts (bl s)).length = n at *
  generalize hm : (pts (bl t)).length = m at *
  generalize pts (bl s) = xs at *
  generalize pts (bl t) = ys at *
  clear hn hm
  go_enter Tryd.func3, Tryd.ntmps3
  go_wp2_with fail
  refine (cR _).mono ?_
  rintro e w1 ⟨A0, c0, rfl, hc0, r0, b1⟩
  go_wp2_with fail
  refine (cO _).mono ?_
  rintro e w2 ⟨A1, c1, rfl, hc1, r1, o1, b2⟩
  have o1 := Ow.of o1
  have r0 := (r0.below b2 (Nat.le_refl _)).more b2.size
  go_wp2_with fail
  refine (cO _).mono ?_
  rintro e w3 ⟨A2, c2, rfl, hc2, r2, o2, b3⟩
  have o2 := Ow.of o2
  have o1 := o1.next b3
  have r0 := (r0.below b3 (Nat.le_refl _)).more b3.size
  have r1 := (r1.below b3 (Nat.le_refl _)).more b3.size
  go_wp2_with fail
  refine (cOt _).mono ?_
  rintro e w4 ⟨A3, c3, rfl, hc3, r3, o3, b4⟩
  have o3 := Ow.of o3
  have o1 := o1.next b4
  have o2 := o2.next b4
  have r0 := (r0.below b4 (Nat.le_refl _)).more b4.size
  have r1 := (r1.below b4 (Nat.le_refl _)).more b4.size
  have r2 := (r2.below b4 (Nat.le_refl _)).more b4.size
  go_wp2_with fail
  refine (cO _).mono ?_
  rintro e w5 ⟨A4, c4, rfl, hc4, r4, o4, b5⟩
  have o4 := Ow.of o4
  have o1 := o1.next b5
  have o2 := o2.next b5
  have o3 := o3.next b5
  have r0 := (r0.below b5 (Nat.le_refl _)).more b5.size
  have r1 := (r1.below b5 (Nat.le_refl _)).more b5.size
  have r2 := (r2.below b5 (Nat.le_refl _)).more b5.size
  have r3 := (r3.below b5 (Nat.le_refl _)).more b5.size
  have z5 := b5.size
  have b05 := (((b1.trans (b2.mono b1.size)).trans (b3.mono (Nat.le_trans b1.size b2.size))).trans (b4.mono (Nat.le_trans b1.size (Nat.le_trans b2.size b3.size)))).trans (b5.mono (Nat.le_trans b1.size (Nat.le_trans b2.size (Nat.le_trans b3.size b4.size))))
  have z1 := b1.size
  have z2 := b2.size
  have z3 := b3.size
  have z4 := b4.size
  clear cO cOt cR b1 b2 b3 b4 b5
  go_wp2_with fail
  refine (cS _ _ _ _ _ r1 r0 hc1 hc0).mono ?_
  rintro e w6 ⟨rfl, b6⟩
  have o1 := o1.next b6
  have o2 := o2.next b6
  have o3 := o3.next b6
  have o4 := o4.next b6
  have r0 := (r0.below b6 (Nat.le_refl _)).more b6.size
  have r2 := (r2.below b6 (Nat.le_refl _)).more b6.size
  have r3 := (r3.below b6 (Nat.le_refl _)).more b6.size
  have r4 := (r4.below b6 (Nat.le_refl _)).more b6.size
  go_wp2_with fail
  refine (cS _ _ _ _ _ r2 r0 hc2 hc0).mono ?_
  rintro e w7 ⟨rfl, b7⟩
  have o1 := o1.next b7
  have o2 := o2.next b7
  have o3 := o3.next b7
  have o4 := o4.next b7
  have r0 := (r0.below b7 (Nat.le_refl _)).more b7.size
  have r3 := (r3.below b7 (Nat.le_refl _)).more b7.size
  have r4 := (r4.below b7 (Nat.le_refl _)).more b7.size
  go_wp2_with fail
  refine (cRt _).mono ?_
  rintro e w8 ⟨A5, c5, rfl, hc5, r5, b8⟩
  have o1 := o1.next b8
  have o2 := o2.next b8
  have o3 := o3.next b8
  have o4 := o4.next b8
  have r0 := (r0.below b8 (Nat.le_refl _)).more b8.size
  have r3 := (r3.below b8 (Nat.le_refl _)).more b8.size
  have r4 := (r4.below b8 (Nat.le_refl _)).more b8.size
  go_wp2_with fail
  refine (cSt _ _ _ _ _ r3 r5 hc3 hc5).mono ?_
  rintro e w9 ⟨rfl, b9⟩
  have o1 := o1.next b9
  have o2 := o2.next b9
  have o3 := o3.next b9
  have o4 := o4.next b9
  have r0 := (r0.below b9 (Nat.le_refl _)).more b9.size
  have r4 := (r4.below b9 (Nat.le_refl _)).more b9.size
  go_wp2_with fail
  refine (cS _ _ _ _ _ r4 r0 hc4 hc0).mono ?_
  rintro e wa ⟨rfl, ba⟩
  have o1 := o1.next ba
  have o2 := o2.next ba
  have o3 := o3.next ba
  have o4 := o4.next ba
  have b5a := (((b6.trans (b7.mono b6.size)).trans (b8.mono (Nat.le_trans b6.size b7.size))).trans (b9.mono (Nat.le_trans b6.size (Nat.le_trans b7.size b8.size)))).trans (ba.mono (Nat.le_trans b6.size (Nat.le_trans b7.size (Nat.le_trans b8.size b9.size))))
  have z5a := b5a.size
  have cA := apart4 wa _ _ _ _ _ A1 A2 A3 A4 _ _ _ _ c1 c2 c3 c4 ⟨z2, z3, z4, z5, z5a⟩ o1 o2 o3 o4 hns hns hnt hns
  have bwa := b05.trans (b5a.mono (by omega))
  clear cS cSt cRt r0 r4 r5 b6 b7 b8 b9 ba o1 o2 o3 o4
  go_wp2_with fail
  refine cA.mono ?_
  rintro e wb ⟨rfl, bb⟩
  have bwb := bwa.trans (bb.mono z1)
  have hEb : HE wb := hE.below bwb (Nat.le_refl _)
  go_wp2_with fail
  refine (works_any _ hEb).mono ?_
  rintro e wc ⟨rfl, bc⟩
  go_wp2
  go_ret
  exact ⟨rfl, bwb.trans (bc.mono bwb.size)⟩
end Go.Proofs.YtbkimhbpcmbflaaDoor.C
