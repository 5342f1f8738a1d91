/-
  Of this seat's texts what the claim wants (printed by a program): JU.
-/
import Derived.Test.YtlomjbfhalmalaaGreatDoorqJT
import Derived.Test.YtlomjbfhalmalaaGreatDoorqH4
set_option linter.unusedVariables false
set_option linter.unusedSimpArgs false
namespace Go.Proofs.YtlomjbfhalmalaaGreatDoor.C
open Go Go.RowKit Go.Shelf Go.Proofs.YtlomjbfhalmalaaGreatDoor.M Go.Proofs.YtlomjbfhalmalaaGreatDoor.PAll Go.Proofs.YtlomjbfhalmalaaGreatDoorW.PrintWords Go.Proofs.YtlomjbfhalmalaaGreatDoorW.PrintLast Go.Proofs.YtlomjbfhalmalaaGreatDoorW.PrintMore Go.Proofs.YtlomjbfhalmalaaGreatDoor.H
theorem w64n {n : Nat} (h : n ≤ 1000000000) : wrap64 ((n : Int) + 1) = ((n + 1 : Nat) : Int) := by rw [w64 (by omega) (by omega)]; omega
theorem w64m {n : Nat} (h : n ≤ 1000000000) (h0 : 0 < n) : wrap64 ((n : Int) - 1) = ((n - 1 : Nat) : Int) := by rw [w64 (by omega) (by omega)]; omega
theorem rdOf_nat (xs : List Bool) (i : Nat) : rdOf false xs (i : Int) = xs.getD i false := by unfold rdOf; rw [Int.toNat_natCast]
theorem set_get (N : List Bool) (j q : Nat) (v : Bool) (h : j < N.length) : (N.set j v).getD q false = if q = j then v else N.getD q false := by
  simp only [List.getD_eq_getElem?_getD, List.getElem?_set]
  by_cases e : j = q
  · subst e; simp [h]
  · rw [if_neg e, if_neg (fun h => e h.symm)]
def tkOf (lit : Bool) (c : Int) : Tk := if lit then .lit c else if c = 42 then .star else .any
section
variable (P W : List Int) (T : List Bool) (x8 c : Int) (lit : Bool) (row : Nat → Bool)
theorem j5_run (hW : W.length ≤ 1000000) (hT : T.length = W.length + 1) (hrow : ∀ q, q ≤ W.length → T.getD q false = row q) (j : Nat) (N : List Bool) (hj : j ≤ W.length) (hN : N.length = W.length + 1)
    (hp : ∀ q, q < j → N.getD q false = rowStep W (tkOf lit c) row q) (k : Nat) :
    glossaryref28_Like.j5 (k + 1) P W T x8 N c lit (j : Int) (if lit = true then false else (c == 42)) = glossaryref28_Like.l1 k P W T x8 (N.set j (rowStep W (tkOf lit c) row j)) c lit ((j + 1 : Nat) : Int) := by
  have e1 := w64n (n := j) (by omega)
  have a1 : (0 : Int) ≤ (j : Int) := by omega
  have a2 : (j : Int) < (T.length : Int) := by omega
  have a3 : (j : Int) < (N.length : Int) := by omega
  have a4 : ((j : Nat) : Int).toNat = j := Int.toNat_natCast j
  cases j with
  | zero =>
    have z : ¬ ((0 : Nat) : Int) > 0 := by omega
    have rT := hrow 0 (by omega)
    cases lit with
    | true =>
      simp only [glossaryref28_Like.j5, if_neg z, if_pos a1, if_pos a2, if_pos a3, a4, e1, tkOf, rowStep, if_true, Bool.false_eq_true, if_false]
    | false =>
      by_cases h42 : c = 42
      · subst h42
        have rT0 : rdOf false T ((0 : Nat) : Int) = row 0 := by rw [rdOf_nat, rT]
        simp only [glossaryref28_Like.j5, if_neg z, if_pos a1, if_pos a2, if_pos a3, rT0, a4, e1, if_true, Bool.false_eq_true, if_false, beq_self_eq_true]
        cases hr : row 0 with
        | true => simp [tkOf, rowStep, hr]
        | false => simp [tkOf, rowStep, hr]
      · have hb : (c == 42) = false := beq_eq_false_iff_ne.2 h42
        simp only [glossaryref28_Like.j5, if_neg z, if_pos a1, if_pos a3, a4, e1, if_true, Bool.false_eq_true, if_false, hb]
        simp [tkOf, h42, rowStep]
  | succ i =>
    have z : ((i + 1 : Nat) : Int) > 0 := by omega
    have e2 := w64m (n := i + 1) (by omega) (by omega)
    have rT := hrow (i + 1) (by omega)
    have rT' := hrow i (by omega)
    have pN := hp i (by omega)
    have a5 : (0 : Int) ≤ (i : Int) := by omega
    have a6 : (i : Int) < (T.length : Int) := by omega
    have a7 : (i : Int) < (N.length : Int) := by omega
    have a8 : (i : Int) < (W.length : Int) := by omega
    obtain ⟨u, hu⟩ : ∃ u, W[i]? = some u := ⟨_, List.getElem?_eq_getElem (by omega)⟩
    have rW := rd_some hu
    rw [show i + 1 - 1 = i from rfl] at e2
    have rT1 : rdOf false T ((i + 1 : Nat) : Int) = row (i + 1) := by rw [rdOf_nat, rT]
    have rT2 : rdOf false T ((i : Nat) : Int) = row i := by rw [rdOf_nat, rT']
    have rN2 : rdOf false N ((i : Nat) : Int) = rowStep W (tkOf lit c) row i := by rw [rdOf_nat, pN]
    cases lit with
    | true =>
      simp only [glossaryref28_Like.j5, if_pos z, e2, if_pos a5, if_pos a6, if_pos a8, if_pos a1, if_pos a3, rT2, rW, a4, e1, if_true, Bool.false_eq_true, if_false]
      cases hr : row i with
      | true => simp [tkOf, rowStep, hr, hu]
      | false => simp [tkOf, rowStep, hr]
    | false =>
      by_cases h42 : c = 42
      · subst h42
        simp only [glossaryref28_Like.j5, if_pos z, e2, if_pos a5, if_pos a7, if_pos a1, if_pos a2, if_pos a3, rT1, rN2, a4, e1, if_true, Bool.false_eq_true, if_false, beq_self_eq_true]
        cases hr : row (i + 1) with
        | true => simp [tkOf, rowStep, hr]
        | false => simp [tkOf, rowStep, hr]
      · have hb : (c == 42) = false := beq_eq_false_iff_ne.2 h42
        simp only [glossaryref28_Like.j5, if_pos z, e2, if_pos a5, if_pos a6, if_pos a1, if_pos a3, rT2, a4, e1, if_true, Bool.false_eq_true, if_false, hb]
        simp [tkOf, h42, rowStep]
theorem l1_run (hW : W.length ≤ 1000000) (hT : T.length = W.length + 1) (hrow : ∀ q, q ≤ W.length → T.getD q false = row q) (m : Nat) : ∀ (n j : Nat) (N : List Bool), j + n = W.length + 1 → N.length = W.length + 1 → (∀ q, q < j → N.getD q false = rowStep W (tkOf lit c) row q) →
    ∃ N' : List Bool, N'.length = W.length + 1 ∧ (∀ q, q ≤ W.length → N'.getD q false = rowStep W (tkOf lit c) row q) ∧ glossaryref28_Like.l1 (2 * n + 1 + m) P W T x8 N c lit (j : Int) = glossaryref28_Like.l0 m P W N' (wrap64 (x8 + 1)) := by
  intro n
  induction n with
  | zero =>
    intro j N hj hN hp
    refine ⟨N, hN, fun q hq => hp q (by omega), ?_⟩
    rw [show 2 * 0 + 1 + m = m + 1 by omega]
    simp only [glossaryref28_Like.l1]
    rw [if_neg (by omega)]
  | succ n ih =>
    intro j N hj hN hp
    rw [show 2 * (n + 1) + 1 + m = (2 * n + 1 + m) + 1 + 1 by omega]
    have hjw : j ≤ W.length := by omega
    have h1 : glossaryref28_Like.l1 ((2 * n + 1 + m) + 1 + 1) P W T x8 N c lit (j : Int) = glossaryref28_Like.j5 ((2 * n + 1 + m) + 1) P W T x8 N c lit (j : Int) (if lit = true then false else (c == 42)) := by
      simp only [glossaryref28_Like.l1]
      rw [if_pos (by omega)]
      cases lit <;> simp
    rw [h1, j5_run P W T x8 c lit row hW hT hrow j N hjw hN hp]
    refine ih (j + 1) _ (by omega) (by rw [List.length_set]; exact hN) (fun q hq => ?_)
    rw [set_get _ _ _ _ (by omega)]
    by_cases e : q = j
    · rw [if_pos e, e]
    · rw [if_neg e]; exact hp q (by omega)
end
def rowL (W : List Int) (f : Nat → Bool) : List Bool := (List.range (W.length + 1)).map f
theorem rowL_eq {W : List Int} {f : Nat → Bool} {N : List Bool} (h1 : N.length = W.length + 1) (h2 : ∀ q, q ≤ W.length → N.getD q false = f q) : N = rowL W f := by
  apply List.ext_getElem?
  intro q
  unfold rowL
  by_cases hq : q < W.length + 1
  · rw [List.getElem?_map, List.getElem?_range hq, List.getElem?_eq_getElem (by omega)]
    have := h2 q (by omega)
    rw [List.getD_eq_getElem?_getD, List.getElem?_eq_getElem (by omega)] at this
    simp at this
    simp [this]
  · rw [List.getElem?_eq_none (by omega), List.getElem?_eq_none (by simp; omega)]
theorem rep_get (n q : Nat) : (List.replicate n false).getD q false = false := by
  simp only [List.getD_eq_getElem?_getD, List.getElem?_replicate]
  split <;> rfl
theorem l0_step (P W : List Int) (T : List Bool) (row : Nat → Bool) (hP : P.length ≤ 1000000) (hW : W.length ≤ 1000000) (hT : T.length = W.length + 1) (hrow : ∀ q, q ≤ W.length → T.getD q false = row q) (m i i' : Nat) (c0 c : Int) (lit : Bool) (hc0 : P[i]? = some c0)
    (h : c0 = 42 ∧ lit = false ∧ c = 42 ∧ i' = i ∨ c0 = 63 ∧ lit = false ∧ c = 63 ∧ i' = i ∨ c0 = 92 ∧ lit = true ∧ P[i + 1]? = some c ∧ i' = i + 1 ∨ c0 ≠ 42 ∧ c0 ≠ 63 ∧ (c0 = 92 → P.length ≤ i + 1) ∧ lit = true ∧ c = c0 ∧ i' = i) :
    ∃ N' : List Bool, N'.length = W.length + 1 ∧ (∀ q, q ≤ W.length → N'.getD q false = rowStep W (tkOf lit c) row q) ∧ glossaryref28_Like.l0 (2 * (W.length + 1) + 1 + m + 4) P W T (i : Int) = glossaryref28_Like.l0 m P W N' ((i' + 1 : Nat) : Int) := by
  have hi : i < P.length := (List.getElem?_eq_some_iff.1 hc0).1
  have hi' : i' ≤ 1000001 := by rcases h with h | h | h | h <;> omega
  obtain ⟨N', h1, h2, h3⟩ := l1_run P W T (i' : Int) c lit row hW hT hrow m (W.length + 1) 0 (List.replicate (W.length + 1) false) (by omega) (by simp) (fun q hq => by omega)
  refine ⟨N', h1, h2, ?_⟩
  rw [w64n (by omega)] at h3
  rw [← h3]
  have eW := w64n (n := W.length) (by omega)
  have eI := w64n (n := i) (by omega)
  have g1 : (i : Int) < (P.length : Int) := by omega
  have g2 : (0 : Int) ≤ ((W.length + 1 : Nat) : Int) := by omega
  have g3 : (((W.length + 1 : Nat) : Int)).toNat ≤ 281474976710656 := by rw [Int.toNat_natCast]; omega
  have g3' : W.length + 1 ≤ 281474976710656 := by omega
  have g4 : (0 : Int) ≤ (i : Int) := by omega
  have r0 := rd_some hc0
  have hl0 : glossaryref28_Like.l0 (2 * (W.length + 1) + 1 + m + 4) P W T (i : Int) = (if c0 = 42 then glossaryref28_Like.j1 (2 * (W.length + 1) + 1 + m + 3) P W T (i : Int) (List.replicate (W.length + 1) false) c0 false else glossaryref28_Like.j1 (2 * (W.length + 1) + 1 + m + 3) P W T (i : Int) (List.replicate (W.length + 1) false) c0 (c0 != 63)) := by
    simp only [glossaryref28_Like.l0, if_pos g1, eW, if_pos g2, if_pos g3, Option.bind_some, if_pos g4, r0, Int.toNat_natCast, if_pos g3']
  have hj1 : ∀ l, c0 ≠ 92 ∨ P.length ≤ i + 1 → glossaryref28_Like.j1 (2 * (W.length + 1) + 1 + m + 3) P W T (i : Int) (List.replicate (W.length + 1) false) c0 l = glossaryref28_Like.l1 (2 * (W.length + 1) + 1 + m) P W T (i : Int) (List.replicate (W.length + 1) false) c0 l ((0 : Nat) : Int) := by
    intro l hl
    have e : decide (((i + 1 : Nat) : Int) < (P.length : Int)) = decide (i + 1 < P.length) := by
      rw [decide_eq_decide]; omega
    by_cases e92 : c0 = 92
    · have hn : decide (i + 1 < P.length) = false := decide_eq_false (by rcases hl with h | h; exact absurd e92 h; omega)
      simp only [glossaryref28_Like.j1, glossaryref28_Like.j2, glossaryref28_Like.j3, if_pos e92, eI, e, hn, Bool.false_eq_true, if_false]
      rfl
    · simp only [glossaryref28_Like.j1, glossaryref28_Like.j2, glossaryref28_Like.j3, if_neg e92, Bool.false_eq_true, if_false]
      rfl
  rw [hl0]
  rcases h with ⟨rfl, rfl, rfl, rfl⟩ | ⟨rfl, rfl, rfl, rfl⟩ | ⟨rfl, rfl, hc, rfl⟩ | ⟨n1, n2, n3, rfl, rfl, rfl⟩
  · rw [if_pos rfl, hj1 _ (.inl (by decide))]
  · rw [if_neg (by decide), hj1 _ (.inl (by decide))]; rfl
  · have hi1 : i + 1 < P.length := (List.getElem?_eq_some_iff.1 hc).1
    have g5 : (0 : Int) ≤ ((i + 1 : Nat) : Int) := by omega
    have g6 : ((i + 1 : Nat) : Int) < (P.length : Int) := by omega
    have r1 := rd_some hc
    rw [if_neg (by decide)]
    simp only [glossaryref28_Like.j1, glossaryref28_Like.j2, glossaryref28_Like.j3, if_true, eI, decide_eq_true g6, if_pos g5, if_pos g6, r1]
    rfl
  · rw [if_neg n1, hj1 _ (by
      by_cases e : c = 92
      · exact .inr (n3 e)
      · exact .inl e)]
    have : (c != 63) = true := by simp only [bne, beq_eq_false_iff_ne.2 n2, Bool.not_false]
    rw [this]
theorem l0_all (P W : List Int) (hP : P.length ≤ 1000000) (hW : W.length ≤ 1000000) : ∀ (n i : Nat) (T : List Bool) (row : Nat → Bool), P.length - i ≤ n → T.length = W.length + 1 → (∀ q, q ≤ W.length → T.getD q false = row q) → ∃ k, glossaryref28_Like.l0 k P W T (i : Int) = some (rows W (toks (P.drop i)) row W.length) := by
  intro n
  induction n with
  | zero =>
    intro i T row hi hT hrow
    refine ⟨1, ?_⟩
    simp only [glossaryref28_Like.l0]
    rw [if_neg (by omega), if_pos (by omega), if_pos (by omega), rdOf_nat, hrow _ (Nat.le_refl _), List.drop_eq_nil_of_le (by omega)]
    rfl
  | succ n ih =>
    intro i T row hi hT hrow
    by_cases hl : P.length ≤ i
    · exact ih i T row (by omega) hT hrow
    · obtain ⟨c0, hc0⟩ : ∃ c0, P[i]? = some c0 := ⟨_, List.getElem?_eq_getElem (by omega)⟩
      have go : ∀ (i' : Nat) (c : Int) (lit : Bool), i ≤ i' → toks (P.drop i) = tkOf lit c :: toks (P.drop (i' + 1)) →
          (c0 = 42 ∧ lit = false ∧ c = 42 ∧ i' = i ∨ c0 = 63 ∧ lit = false ∧ c = 63 ∧ i' = i ∨ c0 = 92 ∧ lit = true ∧ P[i + 1]? = some c ∧ i' = i + 1 ∨ c0 ≠ 42 ∧ c0 ≠ 63 ∧ (c0 = 92 → P.length ≤ i + 1) ∧ lit = true ∧ c = c0 ∧ i' = i) →
          ∃ k, glossaryref28_Like.l0 k P W T (i : Int) = some (rows W (toks (P.drop i)) row W.length) := by
        intro i' c lit hii ht hcase
        have hlen : (rowL W (rowStep W (tkOf lit c) row)).length = W.length + 1 := by simp [rowL]
        obtain ⟨k, hk⟩ := ih (i' + 1) (rowL W (rowStep W (tkOf lit c) row)) (rowStep W (tkOf lit c) row) (by omega) hlen (fun q hq => by simp [rowL, List.getD_eq_getElem?_getD, List.getElem?_map, List.getElem?_range (show q < W.length + 1 by omega)])
        obtain ⟨N', h1, h2, h3⟩ := l0_step P W T row hP hW hT hrow k i i' c0 c lit hc0 hcase
        refine ⟨_, h3.trans ?_⟩
        rw [rowL_eq h1 h2, hk, ht, rows]
      by_cases h42 : c0 = 42
      · subst h42
        exact go i 42 false (Nat.le_refl _) (by rw [tk_star hc0]; rfl) (.inl ⟨rfl, rfl, rfl, rfl⟩)
      · by_cases h63 : c0 = 63
        · subst h63
          exact go i 63 false (Nat.le_refl _) (by rw [tk_any hc0]; rfl) (.inr (.inl ⟨rfl, rfl, rfl, rfl⟩))
        · by_cases h92 : c0 = 92 ∧ i + 1 < P.length
          · obtain ⟨rfl, h1⟩ := h92
            obtain ⟨d, hd⟩ : ∃ d, P[i + 1]? = some d := ⟨_, List.getElem?_eq_getElem h1⟩
            exact go (i + 1) d true (by omega) (by rw [tk_esc hc0 hd]; rfl) (.inr (.inr (.inl ⟨rfl, rfl, hd, rfl⟩)))
          · have hx : c0 = 92 → P.length ≤ i + 1 := fun e => by
              rcases Nat.lt_or_ge (i + 1) P.length with h | h
              · exact absurd ⟨e, h⟩ h92
              · exact h
            exact go i c0 true (Nat.le_refl _) (by rw [tk_lit hc0 h42 h63 hx]; rfl) (.inr (.inr (.inr ⟨h42, h63, hx, rfl, rfl, rfl⟩)))
theorem of_up {k : Nat} {s : ByteArray} {r : List Int} (h : glossaryref02_Of.f k s = some r) : ∀ d, glossaryref02_Of.f (k + d) s = some r
  | 0 => h
  | d + 1 => glossaryref02_Of.mono _ _ _ (of_up h d)
theorem l0_up {k : Nat} {P W : List Int} {T : List Bool} {i : Int} {r : Bool} (h : glossaryref28_Like.l0 k P W T i = some r) : ∀ d, glossaryref28_Like.l0 (k + d) P W T i = some r
  | 0 => h
  | d + 1 => (glossaryref28_Like.mono_l _).1 _ _ _ _ _ (l0_up h d)
theorem bnd {α β : Type} (x : α) (f : α → Option β) : (some x).bind f = f x := by
  have : ∀ o : Option α, o = some x → o.bind f = f x := by
    intro o h
    subst h
    rfl
  exact this _ rfl
theorem f_eq (k : Nat) (s t : ByteArray) (P W : List Int) (T : List Bool) (hW : W.length ≤ 1000000) (hT : T = (List.replicate (W.length + 1) false).set 0 true) (r : Option Bool) (h1 : glossaryref02_Of.f k s = some P) (h2 : glossaryref02_Of.f k t = some W) (h3 : glossaryref28_Like.l0 k P W T 0 = r) : glossaryref28_Like.f k s t = r := by
  have eW := w64n (n := W.length) (by omega)
  have g2 : (0 : Int) ≤ wrap64 ((W.length : Int) + 1) := by rw [eW]; exact Int.natCast_nonneg _
  have e5 : (wrap64 ((W.length : Int) + 1)).toNat = W.length + 1 := by rw [eW, Int.toNat_natCast]
  have g3 : (wrap64 ((W.length : Int) + 1)).toNat ≤ 281474976710656 := by rw [e5]; exact Nat.le_trans (Nat.succ_le_succ hW) (Nat.le_of_ble_eq_true rfl)
  have g4 : (0 : Int) < ((List.replicate (wrap64 ((W.length : Int) + 1)).toNat false).length : Int) := by rw [List.length_replicate, e5]; exact Int.natCast_pos.2 (Nat.succ_pos _)
  have h4 : (if (0 : Int) < ((List.replicate (wrap64 ((W.length : Int) + 1)).toNat false).length : Int) then glossaryref28_Like.l0 k P W ((List.replicate (wrap64 ((W.length : Int) + 1)).toNat false).set (0 : Int).toNat true) 0 else none) = r := by
    rw [if_pos g4, e5]
    rw [hT] at h3
    exact h3
  rw [glossaryref28_Like.f, h1, bnd, h2, bnd, if_pos g2, if_pos g3, bnd]
  exact h4
theorem ref_like (s t : ByteArray) (hs : s.size ≤ 1000000) (ht : t.size ≤ 1000000) : ∃ k, glossaryref28_Like.f k s t = some (glob (toks (pts (bl s))) (pts (bl t))) := by
  obtain ⟨k1, h1⟩ := of_ref s (by omega)
  obtain ⟨k2, h2⟩ := of_ref t (by omega)
  have n1 := pts_len (bl s)
  have n2 := pts_len (bl t)
  rw [bl_len] at n1 n2
  generalize pts (bl s) = P at h1 n1 ⊢
  generalize pts (bl t) = W at h2 n2 ⊢
  obtain ⟨T, hT⟩ : ∃ T, T = (List.replicate (W.length + 1) false).set 0 true := ⟨_, rfl⟩
  have e0 : T.length = W.length + 1 := by rw [hT]; simp
  obtain ⟨k3, h3⟩ := l0_all P W (by omega) (by omega) P.length 0 T (fun j => decide (j = 0)) (by omega) e0 (fun q hq => by
    rw [hT, set_get _ _ _ _ (by simp)]
    by_cases e : q = 0
    · rw [if_pos e]; simp [e]
    · rw [if_neg e, rep_get]; simp [e])
  rw [List.drop_zero, rows_all] at h3
  have q1 := of_up h1 (k2 + k3)
  have q2 := of_up h2 (k1 + k3)
  have q3 := l0_up h3 (k1 + k2)
  rw [show k1 + (k2 + k3) = k1 + k2 + k3 by omega] at q1
  rw [show k2 + (k1 + k3) = k1 + k2 + k3 by omega] at q2
  rw [show k3 + (k1 + k2) = k1 + k2 + k3 by omega] at q3
  exact ⟨k1 + k2 + k3, f_eq _ s t P W T (by omega) hT _ q1 q2 q3⟩
end Go.Proofs.YtlomjbfhalmalaaGreatDoor.C
