/-
  Of this seat's texts what the claim wants (printed by a program): JS.
-/
import Derived.Test.YtlomjbfhalmalaaGreatDoortJ1
import Derived.Test.YtlomjbfhalmalaaGreatDoortH4
set_option linter.unusedVariables false
set_option linter.unusedSimpArgs false
namespace Go.Proofs.YtlomjbfhalmalaaGreatDoor.C
open Go Go.RowKit Go.Shelf Go.Proofs.YtlomjbfhalmalaaGreatDoor.M Go.Proofs.YtlomjbfhalmalaaGreatDoor.Z Go.Proofs.YtlomjbfhalmalaaGreatDoor.H
theorem Row.reads {w : World} {base : Nat} {e : TypeId} {k : IntKind} {v : Value} {xs : List Int} (h : Row w base e k v xs) : ∃ A c, v = .slice A xs.length c ∧ xs.length ≤ c ∧ Rd w w.heap.size k A xs := by
  have h0 := h
  rcases h.2 with ⟨rfl, hn⟩ | ⟨g, cap, cur, rfl, hg, hh, hnc, hm, hcs, ht⟩
  · exact ⟨none, 0, by rw [hn], by omega, .inl (List.eq_nil_of_length_eq_zero hn)⟩
  · exact ⟨_, cap, rfl, hnc, .inr ⟨⟨g, 0, none⟩, rfl, (Array.getElem?_eq_some_iff.1 hh).1, fun j u hj => World.ownsRow.cells h0 (g := g) rfl j (.int k u) (by rw [List.getElem?_map, hj]; rfl)⟩⟩
theorem Rd.keeps0 {w w' : World} {B : Nat} {k : IntKind} {A : Option Addr} {xs : List Int} (h : Rd w B k A xs) (hk : Keeps none' w w') : Rd w' B k A xs := by
  rcases h with h | ⟨x, e, hb, hc⟩
  · exact .inl h
  · exact .inr ⟨x, e, hb, fun j u hj => hk.cell (hc j u hj) (fun h => h)⟩
theorem Rd.at {w : World} {B : Nat} {k : IntKind} {A : Option Addr} {xs : List Int} (h : Rd w B k A xs) {j : Nat} {u : Int} (hj : xs[j]? = some u) : ∃ x, A = some x ∧ w.cell? (x.add j) = some (.int k u) := by
  rcases h with h | ⟨x, e, hb, hc⟩
  · rw [h] at hj; simp at hj
  · exact ⟨x, e, hc j u hj⟩
def RdG (w : World) (A : Option Addr) (k : IntKind) (xs : List Int) : Prop := ∀ j u, xs[j]? = some u → ∃ g, A = some ⟨g, 0, none⟩ ∧ w.cell? ⟨g, j, none⟩ = some (.int k u)
theorem RdG.keeps0 {w w' : World} {k : IntKind} {A : Option Addr} {xs : List Int} (h : RdG w A k xs) (hk : Keeps none' w w') : RdG w' A k xs := fun j u hj =>
  let ⟨g, e, hc⟩ := h j u hj
  ⟨g, e, hk.cell hc (fun h => h)⟩
theorem Row.readsG {w : World} {base : Nat} {e : TypeId} {k : IntKind} {v : Value} {xs : List Int} (h : Row w base e k v xs) : ∃ A c, v = .slice A xs.length c ∧ xs.length ≤ c ∧ RdG w A k xs := by
  have h0 := h
  rcases h.2 with ⟨rfl, hn⟩ | ⟨g, cap, cur, rfl, hg, hh, hnc, hm, hcs, ht⟩
  · refine ⟨none, 0, by rw [hn], by omega, fun j u hj => ?_⟩
    rw [List.eq_nil_of_length_eq_zero hn] at hj; simp at hj
  · refine ⟨_, cap, rfl, hnc, fun j u hj => ⟨g, rfl, ?_⟩⟩
    have := World.ownsRow.cells h0 (g := g) rfl j (.int k u) (by rw [List.getElem?_map, hj]; rfl)
    rw [show (⟨g, 0, none⟩ : Addr).add j = ⟨g, j, none⟩ by unfold Addr.add; split <;> simp_all] at this
    exact this
theorem beqT {a b : Int} (h : a = b) : (a == b) = true := by rw [h]; simp
theorem beqF {a b : Int} (h : a ≠ b) : (a == b) = false := beq_eq_false_iff_ne.2 h
theorem wrapN (n : Nat) (h : n ≤ 1000000000) : IntKind.i64.wrap ((n : Int) + 1) = ((n + 1 : Nat) : Int) := by
  rw [Go.Proofs.YtlomjbfhalmalaaGreatDoorW.PrintLast.i64_w]
  unfold wrap64; omega
set_option maxHeartbeats 8000000 in
set_option maxRecDepth 100000 in
theorem like_any (s t : ByteArray) (w : World) (hs : s.size ≤ 1000000) (ht : t.size ≤ 1000000) :
    Calls Tryz.prog 18 #[.string s, .string t] w fun e w' => e = .returned (.bool (glob (toks (pts (bl s))) (pts (bl t)))) ∧ Below w.heap.size w w' := by
  have l1 := sfx_len (bl s)
  have l2 := sfx_len (bl t)
  rw [bl_len] at l1 l2
  have n1 := pts_len (bl s)
  have n2 := pts_len (bl t)
  rw [bl_len] at n1 n2
  have c1 := of_any s w (by omega) (by omega)
  have c2 := fun (W : World) => of_any t W (by omega) (by omega)
  obtain ⟨P, hP⟩ : ∃ P, pts (bl s) = P := ⟨_, rfl⟩
  obtain ⟨W, hW⟩ : ∃ W, pts (bl t) = W := ⟨_, rfl⟩
  rw [hP] at c1 n1
  simp only [hW] at c2 n2
  rw [hP, hW]
  clear hP hW l1 l2
  have Hn1 : P.length ≤ 1000000 := by omega
  have Hn2 : W.length ≤ 1000000 := by omega
  go_enter Tryz.func18, Tryz.ntmps18
  go_wp2_with fail
  refine c1.mono ?_
  rintro e w1 ⟨v1, rfl, hR1, hb1⟩
  obtain ⟨A1, cap1, rfl, hc1, hr1⟩ := hR1.readsG
  go_wp2_with fail
  refine (c2 _).mono ?_
  rintro e w2 ⟨v2, rfl, hR2, hb2⟩
  obtain ⟨A2, cap2, rfl, hc2, hr2⟩ := hR2.readsG
  have hr1' := hr1.keeps0 (Keeps.of_below0 hb2)
  have bw : Below w.heap.size w w2 := hb1.trans (hb2.mono hb1.size)
  clear hr1 hR1 hR2 hb1 hb2 c1 c2 n1 n2 hs ht
  go_wp2
  go_loopw [7, 8, 9, 10, 11, 12, 13] (fun v7 v8 v9 v10 _ _ _ wr => ∃ (sr : Int) (bk i k : Nat), v7 = .int .i64 sr ∧ v8 = .int .i64 (bk : Nat) ∧ v9 = .int .i64 (i : Nat) ∧ v10 = .int .i64 (k : Nat) ∧ LI P W sr bk i k ∧ Keeps none' w2 wr) (fun v7 v8 v9 _ _ _ _ _ => mu P.length W.length (intOf v7) (intOf v8) (intOf v9))
  case atStart => exact ⟨-1, 0, 0, 0, rfl, rfl, rfl, rfl, LI.start P W, Keeps.refl _ _⟩
  case round =>
    obtain ⟨sr, bk, i, k, rfl, rfl, rfl, rfl, hI, hk⟩ := hrel
    have hIi := hI.hi
    have hIk := hI.hk
    have hI1 := hI.s1
    have hI2 := hI.s2
    have hIb := hI.hb
    have R1 := hr1'.keeps0 hk
    have R2 := hr2.keeps0 hk
    have bfin : ∀ X, Keeps none' wr X → Below w.heap.size w X := fun X hX => bw.trans ((hk.trans hX (fun _ _ h => h)).below (Nat.le_of_lt_succ (by have := bw.size; omega)) (fun _ h => h.elim))
    by_cases hkw : k < W.length
    · have i1 : (k : Int) < (W.length : Int) := by omega
      have i1' : decide ((k : Int) < (W.length : Int)) = true := decide_eq_true i1
      obtain ⟨c, hwk⟩ : ∃ c, W[k]? = some c := ⟨_, List.getElem?_eq_getElem hkw⟩
      obtain ⟨y2, rfl, hy2⟩ := R2 _ _ hwk
      have ew1 := wrapN i (by omega)
      have ew2 := wrapN k (by omega)
      by_cases hiP : i < P.length
      · have i2 : (i : Int) < (P.length : Int) := by omega
        obtain ⟨p, hpi⟩ : ∃ p, P[i]? = some p := ⟨_, List.getElem?_eq_getElem hiP⟩
        obtain ⟨y1, rfl, hy1⟩ := R1 _ _ hpi
        have hkf : Keeps none' w2 wr := hk
        by_cases h42 : p = 42
        · subst h42
          have B := hI.onStar hpi
          have hm := mu_star (P := P.length) (W := W.length) (star := sr) (back := (bk : Nat)) (i := i) (k := k) hiP hI1 hI2
          go_wp2
          exact ⟨⟨_, _, _, _, rfl, rfl, rfl, rfl, B, hkf⟩, by simpa [intOf] using hm⟩
        · have t42 := beqF h42
          by_cases h63 : p = 63
          · subst h63
            have B := hI.fit (n := 1) (tk_any hpi) (by omega) (by simp) hwk (by simp [H.fit, ])
            have hm := mu_fit (P := P.length) (W := W.length) (star := sr) (back := (bk : Nat)) (i := i) (n := 1) hiP (by omega)
            go_wp2
            exact ⟨⟨_, _, _, _, rfl, rfl, rfl, rfl, B, hkf⟩, by simpa [intOf] using hm⟩
          · have t63 := beqF h63
            by_cases hesc : p = 92 ∧ i + 1 < P.length
            · obtain ⟨rfl, hi1⟩ := hesc
              have i3 : (i : Int) + 1 < (P.length : Int) := by omega
              have i3' : ((i + 1 : Nat) : Int) < (P.length : Int) := by omega
              have i4 : (0 : Int) ≤ (i : Int) + 1 := by omega
              obtain ⟨d, hpd⟩ : ∃ d, P[i + 1]? = some d := ⟨_, List.getElem?_eq_getElem hi1⟩
              obtain ⟨y1', e1, hy1'⟩ := R1 _ _ hpd
              injection e1 with e1
              injection e1 with e1
              subst e1
              have htk := tk_esc hpi hpd
              by_cases hdc : d = c
              · have tdc := beqT hdc
                have ew5 : IntKind.i64.wrap ((i : Int) + 2) = ((i + 2 : Nat) : Int) := by
                  rw [Go.Proofs.YtlomjbfhalmalaaGreatDoorW.PrintLast.i64_w]
                  unfold wrap64; omega
                have B := hI.fit (n := 2) htk (by omega) (by simp) hwk (by simp [H.fit, hdc])
                have hm := mu_fit (P := P.length) (W := W.length) (star := sr) (back := (bk : Nat)) (i := i) (n := 2) hiP (by omega)
                go_wp2
                go_region
                go_wp2
                exact ⟨⟨_, _, _, _, rfl, rfl, rfl, rfl, B, hk.trans (Keeps.drew _ _) (fun _ _ h => h)⟩, by simpa [intOf] using hm⟩
              · have tdc := beqF hdc
                have hno := no_fit htk (by simp) hwk (by simp [H.fit, hdc])
                by_cases hs0 : 0 ≤ sr
                · obtain ⟨n0, rfl⟩ : ∃ n0 : Nat, sr = n0 := ⟨sr.toNat, by omega⟩
                  have ew3 := wrapN bk (by omega)
                  have ew4 := wrapN n0 (by omega)
                  have B := hI.back hno hkw hs0
                  rw [Int.toNat_natCast] at B
                  have hm := mu_back (P := P.length) (W := W.length) (star := (n0 : Int)) (back := bk) (i := (i : Nat)) (j := ((n0 + 1 : Nat) : Int)) (by omega)
                  go_wp2
                  go_region
                  go_wp2
                  exact ⟨⟨_, _, _, _, rfl, rfl, rfl, rfl, B, hk.trans (Keeps.drew _ _) (fun _ _ h => h)⟩, by simpa [intOf] using hm⟩
                · have hF := hI.lost hno (by omega)
                  go_wp2
                  go_region
                  go_wp2
                  go_ret
                  exact ⟨by first | rfl | (rw [hF] <;> rfl), bfin _ (Keeps.drew _ _)⟩
            · have hlit := tk_lit hpi h42 h63 (fun e => by
                rcases Nat.lt_or_ge (i + 1) P.length with h | h
                · exact absurd ⟨e, h⟩ hesc
                · exact h)
              by_cases h92 : p = 92
              · subst h92
                have hlt1 : ¬ i + 1 < P.length := fun h => hesc ⟨rfl, h⟩
                have i3 : ¬ (i : Int) + 1 < (P.length : Int) := by omega
                have i3' : ¬ ((i + 1 : Nat) : Int) < (P.length : Int) := by omega
                by_cases hdc : (92 : Int) = c
                · have tdc := beqT hdc
                  have B := hI.fit (n := 1) hlit (by omega) (by simp) hwk (by simp [H.fit, hdc])
                  have hm := mu_fit (P := P.length) (W := W.length) (star := sr) (back := (bk : Nat)) (i := i) (n := 1) hiP (by omega)
                  go_wp2
                  exact ⟨⟨_, _, _, _, rfl, rfl, rfl, rfl, B, hk⟩, by simpa [intOf] using hm⟩
                · have tdc := beqF hdc
                  have hno := no_fit hlit (by simp) hwk (by simp [H.fit, hdc])
                  by_cases hs0 : 0 ≤ sr
                  · obtain ⟨n0, rfl⟩ : ∃ n0 : Nat, sr = n0 := ⟨sr.toNat, by omega⟩
                    have ew3 := wrapN bk (by omega)
                    have ew4 := wrapN n0 (by omega)
                    have B := hI.back hno hkw hs0
                    rw [Int.toNat_natCast] at B
                    have hm := mu_back (P := P.length) (W := W.length) (star := (n0 : Int)) (back := bk) (i := (i : Nat)) (j := ((n0 + 1 : Nat) : Int)) (by omega)
                    go_wp2
                    exact ⟨⟨_, _, _, _, rfl, rfl, rfl, rfl, B, hk⟩, by simpa [intOf] using hm⟩
                  · have hF := hI.lost hno (by omega)
                    go_wp2
                    go_ret
                    exact ⟨by first | rfl | (rw [hF] <;> rfl), bfin _ (Keeps.refl _ _)⟩
              · have t92 := beqF h92
                by_cases hdc : p = c
                · have tdc := beqT hdc
                  have B := hI.fit (n := 1) hlit (by omega) (by simp) hwk (by simp [H.fit, hdc])
                  have hm := mu_fit (P := P.length) (W := W.length) (star := sr) (back := (bk : Nat)) (i := i) (n := 1) hiP (by omega)
                  go_wp2
                  exact ⟨⟨_, _, _, _, rfl, rfl, rfl, rfl, B, hk⟩, by simpa [intOf] using hm⟩
                · have tdc := beqF hdc
                  have hno := no_fit hlit (by simp) hwk (by simp [H.fit, hdc])
                  by_cases hs0 : 0 ≤ sr
                  · obtain ⟨n0, rfl⟩ : ∃ n0 : Nat, sr = n0 := ⟨sr.toNat, by omega⟩
                    have ew3 := wrapN bk (by omega)
                    have ew4 := wrapN n0 (by omega)
                    have B := hI.back hno hkw hs0
                    rw [Int.toNat_natCast] at B
                    have hm := mu_back (P := P.length) (W := W.length) (star := (n0 : Int)) (back := bk) (i := (i : Nat)) (j := ((n0 + 1 : Nat) : Int)) (by omega)
                    go_wp2
                    exact ⟨⟨_, _, _, _, rfl, rfl, rfl, rfl, B, hk⟩, by simpa [intOf] using hm⟩
                  · have hF := hI.lost hno (by omega)
                    go_wp2
                    go_ret
                    exact ⟨by first | rfl | (rw [hF] <;> rfl), bfin _ (Keeps.refl _ _)⟩
      · have i2 : ¬ (i : Int) < (P.length : Int) := by omega
        have hno := no_end (p := P) (i := i) (w := W) (by omega) hwk
        by_cases hs0 : 0 ≤ sr
        · obtain ⟨n0, rfl⟩ : ∃ n0 : Nat, sr = n0 := ⟨sr.toNat, by omega⟩
          have ew3 := wrapN bk (by omega)
          have ew4 := wrapN n0 (by omega)
          have B := hI.back hno hkw hs0
          rw [Int.toNat_natCast] at B
          have hm := mu_back (P := P.length) (W := W.length) (star := (n0 : Int)) (back := bk) (i := (i : Nat)) (j := ((n0 + 1 : Nat) : Int)) (by omega)
          go_wp2
          exact ⟨⟨_, _, _, _, rfl, rfl, rfl, rfl, B, hk⟩, by simpa [intOf] using hm⟩
        · have hF := hI.lost hno (by omega)
          go_wp2
          go_ret
          exact ⟨by first | rfl | (rw [hF] <;> rfl), bfin _ (Keeps.refl _ _)⟩
    · have i1 : ¬ (k : Int) < (W.length : Int) := by omega
      have hkW : k = W.length := by omega
      subst hkW
      have hL := Lib.hid hI.last
      go_wp2
      obtain ⟨wo, rfl⟩ : ∃ wo, wo = wr := ⟨wr, rfl⟩
      go_loopw [9] (fun v9 wr => ∃ i : Nat, v9 = .int .i64 (i : Nat) ∧ i ≤ P.length ∧ Hid (glob (toks P) W = stars (P.drop i)) ∧ Keeps none' wo wr) (fun v9 _ => P.length - (intOf v9).toNat)
      case atStart => exact ⟨i, rfl, hIi, hL, Keeps.refl _ _⟩
      case round =>
        obtain ⟨i, rfl, hi, hL, hk2⟩ := hrel
        have R1 := R1.keeps0 hk2
        by_cases hiP : i < P.length
        · have i2 : (i : Int) < (P.length : Int) := by omega
          obtain ⟨p, hpi⟩ : ∃ p, P[i]? = some p := ⟨_, List.getElem?_eq_getElem hiP⟩
          obtain ⟨y1, rfl, hy1⟩ := R1 _ _ hpi
          have ew1 := wrapN i (by omega)
          by_cases h42 : p = 42
          · subst h42
            go_wp2
            refine ⟨⟨i + 1, rfl, hiP, Lib.hid (by rw [hL.out, stars_step hpi]), hk2⟩, ?_⟩
            simp only [intOf, Int.toNat_natCast]
            omega
          · have t42 := beqF h42
            have hS := stars_no hpi h42
            have i3 : ((i : Int) == (P.length : Int)) = false := beqF (by omega)
            go_wp2
            go_ret
            exact ⟨by rw [hL.out, hS] <;> rfl, bfin _ hk2⟩
        · have i2 : ¬ (i : Int) < (P.length : Int) := by omega
          have hS := stars_end (p := P) (i := i) (by omega)
          have i3 : ((i : Int) == (P.length : Int)) = true := beqT (by omega)
          go_wp2
          go_ret
          exact ⟨by rw [hL.out, hS] <;> rfl, bfin _ hk2⟩
end Go.Proofs.YtlomjbfhalmalaaGreatDoor.C
