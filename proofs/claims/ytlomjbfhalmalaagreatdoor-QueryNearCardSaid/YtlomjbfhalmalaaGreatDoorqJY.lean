/-
  Of this seat's texts what the claim wants (printed by a program): JY.
-/
import Derived.Test.YtlomjbfhalmalaaGreatDoorqGN
import Derived.Test.YtlomjbfhalmalaaGreatDoorqJV
import Derived.Test.YtlomjbfhalmalaaGreatDoorqJT
import Derived.Test.YtlomjbfhalmalaaGreatDoorqPAllx
set_option linter.unusedVariables false
set_option linter.unusedSimpArgs false
namespace Go.Proofs.YtlomjbfhalmalaaGreatDoor.C
open Go Go.RowKit Go.Shelf Go.Proofs.YtlomjbfhalmalaaGreatDoor.M Go.Proofs.YtlomjbfhalmalaaGreatDoor.Z Go.Proofs.YtlomjbfhalmalaaGreatDoor.H Go.Proofs.YtlomjbfhalmalaaGreatDoor.PAll Go.Proofs.YtlomjbfhalmalaaGreatDoorW.PrintWords Go.Proofs.YtlomjbfhalmalaaGreatDoorW.PrintLast Go.Proofs.YtlomjbfhalmalaaGreatDoorW.PrintMore
theorem dec_l0 (xs ys : List Int) (he : xs.length = ys.length) (hl : xs.length ≤ 1000000) : ∀ m i : Nat, i + m = xs.length → glossaryref0_SameRunes.l0 (m + 1) xs ys i = some (decide (xs.drop i = ys.drop i))
  | 0, i, h => by
    unfold glossaryref0_SameRunes.l0
    rw [if_neg (by omega), List.drop_of_length_le (by omega), List.drop_of_length_le (by omega)]
    simp
  | m + 1, i, h => by
    have h1 : i < xs.length := by omega
    have h2 : i < ys.length := by omega
    have e1 : xs[i]? = some xs[i] := List.getElem?_eq_getElem h1
    have e2 : ys[i]? = some ys[i] := List.getElem?_eq_getElem h2
    unfold glossaryref0_SameRunes.l0
    rw [if_pos (by omega), if_pos (by omega), if_pos (by omega), rd_some e1, rd_some e2, wi i (by omega)]
    have d1 := List.drop_eq_getElem_cons h1
    have d2 := List.drop_eq_getElem_cons h2
    have D : decide (List.drop i xs = List.drop i ys) = decide (xs[i] :: List.drop (i + 1) xs = ys[i] :: List.drop (i + 1) ys) := by rw [← d1, ← d2]
    rw [D]
    clear D d1 d2
    by_cases hc : xs[i] = ys[i]
    · rw [if_pos hc, dec_l0 xs ys he hl m (i + 1) (by omega)]
      congr 1
      exact decide_eq_decide.2 ⟨fun h => by rw [hc, h], fun h => (List.cons.inj h).2⟩
    · rw [if_neg hc]
      congr 1
      exact (decide_eq_false fun h => hc (List.cons.inj h).1).symm
theorem dec_ref (xs ys : List Int) (hl : xs.length ≤ 1000000) : ∃ k, glossaryref0_SameRunes.f k xs ys = some (decide (xs = ys)) := by
  by_cases he : xs.length = ys.length
  · refine ⟨xs.length + 1, ?_⟩
    unfold glossaryref0_SameRunes.f
    rw [if_pos (by omega)]
    have := dec_l0 xs ys he hl xs.length 0 (by omega)
    simpa using this
  · refine ⟨0, ?_⟩
    unfold glossaryref0_SameRunes.f
    rw [if_neg (by omega)]
    have : xs ≠ ys := fun h => he (by rw [h])
    simp [this]
theorem RdG.C {w : World} {k : IntKind} {A : Option Addr} {xs : List Int} (h : RdG w A k xs) (hl : xs.length ≤ 1000000) : (Kd.int k).C w A xs.length xs := by
  refine ⟨rfl, by omega, fun hp => ?_⟩
  obtain ⟨g, rfl, _⟩ := h 0 xs[0] (List.getElem?_eq_getElem hp)
  refine ⟨_, rfl, fun j p hj => ⟨[.int k p], rfl, rfl, fun i u hi => ?_⟩⟩
  rcases i with _ | i
  · cases hi
    obtain ⟨g', e, hc⟩ := h j p hj
    cases e
    have e2 : (⟨g, 0, none⟩ : Addr).add j = ⟨g, j, none⟩ := by unfold Addr.add; split <;> simp_all
    simpa [Kd.int, Kd.scalar, e2] using hc
  · simp at hi
theorem RdG.take {w : World} {k : IntKind} {A : Option Addr} {xs : List Int} (h : RdG w A k xs) (n : Nat) : RdG w A k (xs.take n) := fun j u hj => by
  rw [List.getElem?_take] at hj
  split at hj
  · exact h j u hj
  · simp at hj
theorem same_any (A1 A2 : Option Addr) (c1 c2 n1 n2 : Nat) (xs ys : List Int) (w : World) (hx : RdG w A1 .i32 xs) (hy : RdG w A2 .i32 ys) (e1 : n1 = xs.length) (e2 : n2 = ys.length) (k1 : n1 ≤ c1) (k2 : n2 ≤ c2) (l1 : xs.length ≤ 1000000) (l2 : ys.length ≤ 1000000) :
    Calls Tryz.prog 25 #[.slice A1 n1 c1, .slice A2 n2 c2] w fun e w' => e = .returned (.bool (decide (xs = ys))) ∧ Below w.heap.size w w' := by
  subst e1 e2
  obtain ⟨k, hk⟩ := dec_ref xs ys l1
  exact (glossaryref0_SameRunes.calls k A1 c1 xs A2 c2 ys _ w (hx.C l1) k1 (hy.C l2) k2 hk).mono fun e w' h => ⟨h.1, Drawn0.below h.2⟩
def nr (X Y : List Int) : Nat := ed (gX X) (gX Y) X.length Y.length
theorem nr_sym (X Y : List Int) : nr Y X = nr X Y := ed_sym _ _ _ _
theorem nr_le (X Y : List Int) : nr X Y ≤ max X.length Y.length := ed_le _ _ _ _
theorem nr_ge (X Y : List Int) : X.length ≤ nr X Y + Y.length ∧ Y.length ≤ nr X Y + X.length := ed_ge _ _ _ _
theorem nr_zero (X Y : List Int) : nr X Y = 0 ↔ X = Y := by
  unfold nr
  rw [ed_zero]
  constructor
  · rintro ⟨h, g⟩
    refine List.ext_getElem? fun j => ?_
    rcases Nat.lt_or_ge j X.length with hj | hj
    · have e1 : X[j]? = some X[j] := List.getElem?_eq_getElem hj
      have e2 : Y[j]? = some Y[j] := List.getElem?_eq_getElem (by omega)
      have := g j hj
      rw [gX_at e1, gX_at e2] at this
      rw [e1, e2, this]
    · rw [List.getElem?_eq_none (by omega), List.getElem?_eq_none (by omega)]
  · rintro rfl
    exact ⟨rfl, fun _ _ => rfl⟩
theorem nr_more (X Y Z : List Int) (hl : Z.length = Y.length + 1) (ht : Z.take Y.length = Y) : nr X Z ≤ nr X Y + 1 ∧ nr X Y ≤ nr X Z + 1 := by
  have hc : ed (gX X) (gX Y) X.length Y.length = ed (gX X) (gX Z) X.length Y.length := ed_congr _ _ (fun _ _ => rfl) (fun j hj => by
    have e2 : Y[j]? = some Y[j] := List.getElem?_eq_getElem hj
    have e1 : Z[j]? = some Y[j] := by
      rw [← e2]
      conv => rhs; rw [← ht]
      rw [List.getElem?_take, if_pos hj]
    rw [gX_at e1, gX_at e2])
  unfold nr
  rw [hl, hc]
  exact ⟨ed_left _ _ _ _, ed_A _ _ _ _⟩
theorem edits_yes (s t : ByteArray) (most : Int) (X Y : List Int) (hX : pts (bl s) = X) (hY : pts (bl t) = Y) (n : Nat) (hn : nr X Y = n) (hm : (n : Int) ≤ most) (w : World) (hs : s.size ≤ 1000000) (ht : t.size ≤ 1000000) :
    Calls Tryz.prog 20 #[.string s, .string t, .int .i64 most] w fun e w' => e = .returned (.tuple #[.int .i64 (n : Int), .bool true]) ∧ Below w.heap.size w w' := by
  subst hX hY hn
  have := edits_any s t most w hs ht
  unfold nr at hm ⊢
  rw [if_pos hm] at this
  exact this
theorem edits_no (s t : ByteArray) (most : Int) (X Y : List Int) (hX : pts (bl s) = X) (hY : pts (bl t) = Y) (n : Nat) (hn : nr X Y = n) (hm : ¬ (n : Int) ≤ most) (w : World) (hs : s.size ≤ 1000000) (ht : t.size ≤ 1000000) :
    Calls Tryz.prog 20 #[.string s, .string t, .int .i64 most] w fun e w' => e = .returned (.tuple #[.int .i64 0, .bool false]) ∧ Below w.heap.size w w' := by
  subst hX hY hn
  have := edits_any s t most w hs ht
  unfold nr at hm
  rw [if_neg hm] at this
  exact this
end Go.Proofs.YtlomjbfhalmalaaGreatDoor.C
