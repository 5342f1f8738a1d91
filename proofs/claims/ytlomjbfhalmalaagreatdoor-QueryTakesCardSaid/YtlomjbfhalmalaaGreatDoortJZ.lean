/-
  Of this seat's texts what the claim wants (printed by a program): JZ.
-/
import Derived.Test.YtlomjbfhalmalaaGreatDoortJS
import Derived.Test.YtlomjbfhalmalaaGreatDoortH4
import Derived.Laws.OwnMore
import Derived.Test.YtlomjbfhalmalaaGreatDoortJR
import Derived.Test.YtlomjbfhalmalaaGreatDoortJT
import Derived.Test.YtlomjbfhalmalaaGreatDoortPAllx
set_option linter.unusedVariables false
set_option linter.unusedSimpArgs false
namespace Go.Proofs.YtlomjbfhalmalaaGreatDoor.C
open Go Go.RowKit Go.Shelf Go.Proofs.YtlomjbfhalmalaaGreatDoor.M Go.Proofs.YtlomjbfhalmalaaGreatDoor.Z Go.Proofs.YtlomjbfhalmalaaGreatDoor.H Go.Proofs.YtlomjbfhalmalaaGreatDoorW.PrintWords Go.Proofs.YtlomjbfhalmalaaGreatDoorW.PrintLast Go.Proofs.YtlomjbfhalmalaaGreatDoorW.PrintMore
attribute [local go_sem] max2_int min2_int max_two min_two max_three min_three
theorem infoI : (Tryz.prog.info? 3).map (fun i => (i.zero, i.size, i.bytes)) = some (some (.int .i64 0), 1, 8) := by kernel_rfl
structure RW (W : World) (g n : Nat) (f : Nat → Int) : Prop where
  c : ∀ j, j ≤ n → W.cell? ⟨g, j, none⟩ = some (.int .i64 (f j))
  f : ∀ j, W.frozen? ⟨g, j, none⟩ = false
theorem RW.lt {W : World} {g n : Nat} {f : Nat → Int} (h : RW W g n f) : g < W.heap.size := World.block_lt_of_cell? W _ (h.c 0 (Nat.zero_le _))
theorem RW.keeps {W W' : World} {g n : Nat} {f : Nat → Int} {Z : Nat → Prop} (h : RW W g n f) (hk : Keeps Z W W') (hz : ¬ Z g) : RW W' g n f :=
  ⟨fun j hj => hk.cell (h.c j hj) hz, fun j => (frozen_keeps hk h.lt hz).trans (h.f j)⟩
theorem RW.congr {W : World} {g n : Nat} {f f' : Nat → Int} (h : RW W g n f) (e : ∀ j, j ≤ n → f j = f' j) : RW W g n f' := ⟨fun j hj => by rw [← e j hj]; exact h.c j hj, h.f⟩
theorem RW.set {W : World} {g n : Nat} {f : Nat → Int} (h : RW W g n f) (k : Nat) (hk : k ≤ n) (v : Int) : RW (W.setCell ⟨g, k, none⟩ (.int .i64 v)) g n (fun j => if j = k then v else f j) := by
  refine ⟨fun j hj => ?_, fun j => ?_⟩
  · by_cases e : j = k
    · subst e
      rw [if_pos rfl]
      exact World.cell?_setCell_same' _ _ _ (by rw [h.c j hj]; rfl)
    · rw [if_neg e]
      exact (World.cell?_setCell_other W _ _ _ (fun e' => by injection e' with _ e' _; exact e e'.symm)).trans (h.c j hj)
  · rw [World.frozen?_setCell]; exact h.f j
theorem made (n : Nat) (hn : n ≤ 1000001) (W : World) : ∃ w', (Instr.makeSlice 81 (.int .i64 (n : Int)) (.int .i64 (n : Int))).run Tryz.prog W = .ok (.slice (some ⟨W.heap.size, 0, none⟩) n n) w' ∧ (∀ m, n = m + 1 → RW w' W.heap.size m (fun _ => 0)) ∧ Keeps none' W w' := by
  obtain ⟨i0, hi, hz0, hz1, hz2⟩ := info_parts infoI
  obtain ⟨w', h1, h2, h3⟩ := run_make_full (P := Tryz.prog) (w := W) W.heap.size 81 3 i0 (.int .i64 0) 1 Tryz.underlying81 hi hz0 hz1 .i64 .i64 n (by rw [hz2]; omega) (by unfold maxLen; omega) (Nat.le_refl _)
  refine ⟨w', h1, fun m hm => ?_, Keeps.of_grownBy h3 (fun _ e => by cases e)⟩
  subst hm
  rcases h2.2 with ⟨e, _⟩ | ⟨g, cap, cur, e, hb, hh, hnc, hmx, hcs, ht⟩
  · cases e
  · injection e with e1 e2 e3
    injection e1 with e1
    injection e1 with e1
    subst e1
    refine ⟨fun j hj => ?_, fun j => frozen_cells hh j⟩
    have := h2.cells (g := W.heap.size) rfl j (.int .i64 0) (by
      rw [Array.getElem?_toList]
      simp [madeCells, Value.cells, show j < m + 1 by omega, Nat.mod_one])
    rw [show (⟨W.heap.size, 0, none⟩ : Addr).add j = ⟨W.heap.size, j, none⟩ by unfold Addr.add; split <;> simp_all] at this
    exact this
theorem RdG.keepsZ {w w' : World} {B : Nat} {k : IntKind} {A : Option Addr} {xs : List Int} (h : RdG w A k xs) (hk : Keeps (fun q => B ≤ q) w w') (hB : w.heap.size ≤ B := by omega) : RdG w' A k xs := fun j u hj =>
  let ⟨g, e, hc⟩ := h j u hj
  ⟨g, e, hk.cell hc (fun hq => by
    have := World.block_lt_of_cell? w _ hc
    have hq' : B ≤ g := hq
    have : g < w.heap.size := this
    omega)⟩
theorem wrap_in' {x : Int} (h0 : -9223372036854775808 ≤ x) (h1 : x ≤ 9223372036854775807) : IntKind.i64.wrap x = x := by
  rw [Go.Proofs.YtlomjbfhalmalaaGreatDoorW.PrintLast.i64_w]
  unfold wrap64; omega
abbrev gX (P : List Int) (i : Nat) : Int := P.getD i 0
theorem gX_at {P : List Int} {i : Nat} {u : Int} (h : P[i]? = some u) : gX P i = u := by simp [gX, List.getD_eq_getElem?_getD, h]
set_option maxHeartbeats 16000000 in
set_option maxRecDepth 100000 in
theorem edits_any (s t : ByteArray) (most : Int) (w : World) (hs : s.size ≤ 1000000) (ht : t.size ≤ 1000000) :
    Calls Tryz.prog 20 #[.string s, .string t, .int .i64 most] w fun e w' => e = .returned (if (ed (gX (pts (bl s))) (gX (pts (bl t))) (pts (bl s)).length (pts (bl t)).length : Int) ≤ most then .tuple #[.int .i64 (ed (gX (pts (bl s))) (gX (pts (bl t))) (pts (bl s)).length (pts (bl t)).length : Nat), .bool true] else .tuple #[.int .i64 0, .bool false]) ∧ Below w.heap.size w w' := by
  have l1 := sfx_len (bl s)
  have l2 := sfx_len (bl t)
  rw [bl_len] at l1 l2
  have n1 := pts_len (bl s)
  have n2 := pts_len (bl t)
  rw [bl_len] at n1 n2
  have c1 := of_any s w (by omega) (by omega)
  have c2 := fun (W : World) => of_any t W (by omega) (by omega)
  obtain ⟨X, hX⟩ : ∃ X, pts (bl s) = X := ⟨_, rfl⟩
  obtain ⟨Y, hY⟩ : ∃ Y, pts (bl t) = Y := ⟨_, rfl⟩
  rw [hX] at c1 n1
  simp only [hY] at c2 n2
  rw [hX, hY]
  clear hX hY l1 l2
  have Hn1 : X.length ≤ 1000000 := by omega
  have Hn2 : Y.length ≤ 1000000 := by omega
  have hle := ed_le (gX X) (gX Y)
  obtain ⟨D, hD⟩ : ∃ D, ed (gX X) (gX Y) = D := ⟨_, rfl⟩
  have hshort := ed_short (gX X) (gX Y)
  have hs0 := ed_s0 (gX X) (gX Y)
  have h00 := ed_0 (gX X) (gX Y)
  rw [hD] at hle hshort hs0 h00 ⊢
  obtain ⟨N, hN⟩ : ∃ N, Y.length = N := ⟨_, rfl⟩
  obtain ⟨mk, hmk⟩ := Classical.skolem.1 (made (N + 1) (by omega))
  have hmr : ∀ W : World, (Instr.makeSlice 81 (.int .i64 ((N : Int) + 1)) (.int .i64 ((N : Int) + 1))).run Tryz.prog W = .ok (.slice (some ⟨W.heap.size, 0, none⟩) (N + 1) (N + 1)) (mk W) := fun W => by
    have := (hmk W).1
    rw [Int.natCast_add] at this
    exact this
  have hmw := fun W => (hmk W).2.1 N rfl
  have hmK := fun W => (hmk W).2.2
  have Hmw := Lib.hid hmw
  have HmK := Lib.hid hmK
  have Hle := Lib.hid hle
  have Hsh := Lib.hid hshort
  have Hs0 := Lib.hid hs0
  have H00 := Lib.hid h00
  clear hmk hmw hmK hle hshort hs0 h00
  go_enter Tryz.func20, Tryz.ntmps20
  go_wp2_with fail
  refine c1.mono ?_
  rintro e w1 ⟨v1, rfl, hR1, hb1⟩
  obtain ⟨A1, cap1, rfl, hc1, hr1⟩ := hR1.readsG
  go_wp2_with fail
  refine (c2 _).mono ?_
  rintro e w2 ⟨v2, rfl, hR2, hb2⟩
  obtain ⟨A2, cap2, rfl, hc2, hr2⟩ := hR2.readsG
  have hr1' := hr1.keeps0 (Keeps.of_below0 hb2)
  have bw : Below w.heap.size w w2 := hb1.trans (hb2.mono hb1.size)
  rw [hN]
  have eN := wrapN N (by omega)
  clear hr1 hR1 hR2 hb1 hb2 c1 c2 n1 n2 hs ht
  go_wp2
  obtain ⟨g0, hg0⟩ : ∃ g0, w2.heap.size = g0 := ⟨_, rfl⟩
  have hRa := Hmw.out w2
  have hKa := HmK.out w2
  rw [hg0] at hRa
  obtain ⟨w3, hw3⟩ : ∃ w3, mk w2 = w3 := ⟨_, rfl⟩
  rw [hw3] at hRa hKa ⊢
  clear hw3
  go_loopw [13, 28] (fun _ v28 wr => ∃ k : Nat, v28 = .int .i64 (k : Nat) ∧ k ≤ N + 1 ∧ RW wr g0 N (fun j => if j < k then (j : Int) else 0) ∧ Keeps (fun q => q = g0) w3 wr) (fun _ v28 _ => N + 1 - (intOf v28).toNat)
  case atStart => exact ⟨0, rfl, by omega, hRa.congr (fun j hj => by rw [if_neg (by omega)]), Keeps.refl _ _⟩
  case round =>
    obtain ⟨k, rfl, hk, hRk, hKk⟩ := hrel
    by_cases hlt : k < N + 1
    · have i1 : (k : Int) < (N : Int) + 1 := by omega
      have c0 := hRk.c k (by omega)
      have f0 := hRk.f k
      have ek := wrapN k (by omega)
      go_wp2
      exact ⟨⟨k + 1, rfl, by omega, (hRk.set k (by omega) _).congr (fun j hj => by
        by_cases e : j = k
        · subst e; rw [if_pos rfl, if_pos (by omega)]
        · rw [if_neg e]
          by_cases e2 : j < k
          · rw [if_pos e2, if_pos (by omega)]
          · rw [if_neg e2, if_neg (by omega)]), hKk.trans (Keeps.setCell (Z := fun q => q = g0) _ _ _ rfl) (fun _ _ e => e)⟩, by simp only [intOf, Int.toNat_natCast]; omega⟩
    · have i1 : ¬ (k : Int) < (N : Int) + 1 := by omega
      have hkN : k = N + 1 := by omega
      subst hkN
      have hR0 : RW wr g0 N (fun j => ((D 0 j : Nat) : Int)) := hRk.congr (fun j hj => by rw [if_pos (by omega), H00.out])
      have hK0 : Keeps (fun q => g0 ≤ q) w2 wr := (hKa.mono (fun _ _ h => h.elim)).trans hKk (fun _ _ e => by show g0 ≤ _; rw [e]; exact Nat.le_refl _)
      clear hRk hKk
      go_wp2
      obtain ⟨wo, rfl⟩ : ∃ wo, wo = wr := ⟨wr, rfl⟩
      go_loopw [10, 11, 12, 14, 15, 16, 38, 53] (fun _ v11 v12 _ _ _ v38 _ wr => ∃ (i g : Nat), v38 = .int .i64 (i : Nat) ∧ i ≤ X.length ∧ v12 = .slice (some ⟨g, 0, none⟩) (N + 1) (N + 1) ∧ RW wr g N (fun j => ((D i j : Nat) : Int)) ∧ (∀ i', i = i' + 1 → ∃ g1, v11 = .slice (some ⟨g1, 0, none⟩) (N + 1) (N + 1) ∧ g1 ≠ g ∧ RW wr g1 N (fun j => ((D i' j : Nat) : Int))) ∧ Keeps (fun q => g0 ≤ q) w2 wr) (fun _ _ _ _ _ _ v38 _ _ => X.length - (intOf v38).toNat)
      case atStart => exact ⟨0, g0, rfl, Nat.zero_le _, rfl, hR0, fun i' e => by omega, hK0⟩
      case round =>
        obtain ⟨i, g, rfl, hi, rfl, hRg, hv11, hKi⟩ := hrel
        have R1 := hr1'.keepsZ hKi
        by_cases hiX : i < X.length
        · have i2 : (i : Int) < (X.length : Int) := by omega
          have ei := wrapN i (by omega)
          go_wp2
          go_region
          obtain ⟨wo, rfl⟩ : ∃ wo, wo = wr := ⟨wr, rfl⟩
          obtain ⟨gn, hgn⟩ : ∃ gn, wo.heap.size = gn := ⟨_, rfl⟩
          have hRz := Hmw.out wo.drew
          have hKz := HmK.out wo.drew
          rw [show wo.drew.heap.size = gn from hgn] at hRz
          obtain ⟨w4, hw4⟩ : ∃ w4, mk wo.drew = w4 := ⟨_, rfl⟩
          rw [hw4] at hRz hKz
          rw [hw4, hgn]
          clear hw4
          have z0 := hRz.c 0 (Nat.zero_le _)
          have zf := hRz.f 0
          have hgl := hRg.lt
          rw [hgn] at hgl
          have hg0n : g0 ≤ gn := by rw [← hgn, ← hg0]; exact hKi.size
          have hRn0 := hRz.set 0 (Nat.zero_le _) ((i : Int) + 1)
          obtain ⟨w5, hw5⟩ : ∃ w5, w4.setCell ⟨gn, 0, none⟩ (.int .i64 ((i : Int) + 1)) = w5 := ⟨_, rfl⟩
          have hK5 : Keeps (fun q => q = gn) wo w5 := by
            rw [← hw5]
            exact ((Keeps.drew (fun q => q = gn) wo).trans hKz (fun _ _ h => h.elim)).trans (Keeps.setCell (Z := fun q => q = gn) _ _ _ rfl) (fun _ _ e => e)
          rw [hw5] at hRn0
          have HW5 := Lib.hid hw5
          clear hw5
          go_wp2
          rw [HW5.out]
          go_loopw [15, 16, 53] (fun _ _ v53 wr => ∃ k : Nat, v53 = .int .i64 (k : Nat) ∧ k ≤ N ∧ RW wr gn N (fun j => if j ≤ k then ((D (i + 1) j : Nat) : Int) else 0) ∧ Keeps (fun q => q = gn) w5 wr) (fun _ _ v53 _ => N - (intOf v53).toNat)
          case atStart =>
            exact ⟨0, rfl, Nat.zero_le _, hRn0.congr (fun j hj => by
              by_cases e : j = 0
              · subst e; rw [if_pos rfl, if_pos (Nat.le_refl _), Hs0.out]; omega
              · rw [if_neg e, if_neg (by omega)]), Keeps.refl _ _⟩
          case round =>
            obtain ⟨k, rfl, hk, hRn, hKn⟩ := hrel
            have hK1 : Keeps (fun q => q = gn) wo wr := hK5.trans hKn (fun _ _ e => e)
            have hKw : Keeps (fun q => g0 ≤ q) w2 wr := hKi.trans hK1 (fun q _ e => by show g0 ≤ q; rw [e]; exact hg0n)
            have R1 := hr1'.keepsZ hKw
            have R2 := hr2.keepsZ hKw
            have hRg1 := hRg.keeps hK1 (by omega)
            by_cases hkN : k < N
            · have i3 : (k : Int) < (N : Int) := by omega
              obtain ⟨xi, hxi⟩ : ∃ xi, X[i]? = some xi := ⟨_, List.getElem?_eq_getElem hiX⟩
              obtain ⟨yk, hyk⟩ : ∃ yk, Y[k]? = some yk := ⟨_, List.getElem?_eq_getElem (by omega)⟩
              obtain ⟨y1, rfl, hcx⟩ := R1 _ _ hxi
              obtain ⟨y2, rfl, hcy⟩ := R2 _ _ hyk
              have gxi := gX_at hxi
              have gyk := gX_at hyk
              have a0 := hRg1.c k (by omega)
              have a1 := hRg1.c (k + 1) (by omega)
              have b0 : wr.cell? ⟨gn, k, none⟩ = some (.int .i64 ((D (i + 1) k : Nat) : Int)) := by
                have := hRn.c k (by omega)
                rwa [if_pos (Nat.le_refl k)] at this
              have b1 := hRn.c (k + 1) (by omega)
              rw [if_neg (by omega)] at b1
              have b2 := hRn.f (k + 1)
              have hS := Hsh.out i k
              rw [gxi, gyk] at hS
              have lA := Hle.out i k
              have lB := Hle.out i (k + 1)
              have lC := Hle.out (i + 1) k
              have ek := wrapN k (by omega)
              obtain ⟨A, hA⟩ : ∃ A, D i k = A := ⟨_, rfl⟩
              obtain ⟨B, hB⟩ : ∃ B, D i (k + 1) = B := ⟨_, rfl⟩
              obtain ⟨C, hC⟩ : ∃ C, D (i + 1) k = C := ⟨_, rfl⟩
              rw [hA] at a0 hS lA
              rw [hB] at a1 hS lB
              rw [hC] at b0 hS lC
              by_cases hxy : xi = yk
              · have x1 : (xi != yk) = false := by simp only [bne, beqT hxy, Bool.not_true]
                rw [if_pos hxy] at hS
                clear hxy
                obtain ⟨M, hM⟩ : ∃ M, M = A := ⟨_, rfl⟩
                subst hM
                go_wp2
                go_region
                go_wp2
                by_cases hi0 : i = 0
                · have g1 : ¬ (i : Int) > 0 := by omega
                  have g1n : ¬ 0 < i := by omega
                  have g1d : decide ((i : Int) > 0) = false := decide_eq_false g1
                  clear hi0
                  have hv : Hid ((M : Nat) = D (i + 1) (k + 1)) := Lib.hid (by rw [hS, if_neg (by omega)])
                  clear hS
                  go_quiet (fail)
                  go_wp2
                  refine ⟨⟨k + 1, rfl, by omega, ?_, ?_⟩, by simp only [intOf, Int.toNat_natCast]; omega⟩
                  · refine (RW.set (RW.keeps hRn (Z := none') ?_ (fun h => h)) (k + 1) (by omega) _).congr (fun j hj => ?_)
                    · exact ⟨rfl, rfl, rfl, Nat.le_refl _, fun _ _ _ => rfl⟩
                    · by_cases e : j = k + 1
                      · rw [if_pos e, if_pos (by omega), e]; exact congrArg _ hv.out
                      · rw [if_neg e]
                        by_cases e2 : j ≤ k
                        · rw [if_pos e2, if_pos (by omega)]
                        · rw [if_neg e2, if_neg (by omega)]
                  · refine hKn.trans (Z' := fun q => q = gn) (Keeps.trans (Z := fun q => q = gn) (Z' := fun q => q = gn) ?_ (Keeps.setCell (Z := fun q => q = gn) _ _ _ rfl) (fun _ _ e => e)) (fun _ _ e => e)
                    exact ⟨rfl, rfl, rfl, Nat.le_refl _, fun _ _ _ => rfl⟩
                · have g1 : (i : Int) > 0 := by omega
                  obtain ⟨i', rfl⟩ : ∃ i', i = i' + 1 := ⟨i - 1, by omega⟩
                  obtain ⟨g1', e11, hn1, hRp⟩ := hv11 i' rfl
                  subst e11
                  have hlp := hRp.lt
                  rw [hgn] at hlp
                  have hRp := hRp.keeps hK1 (by omega)
                  obtain ⟨xp, hxp⟩ : ∃ xp, X[i']? = some xp := ⟨_, List.getElem?_eq_getElem (by omega)⟩
                  obtain ⟨_, e1, hcxp⟩ := R1 _ _ hxp
                  injection e1 with e1
                  injection e1 with e1
                  subst e1
                  have gxp := gX_at hxp
                  by_cases hk0 : k = 0
                  · have g2 : ¬ (k : Int) > 0 := by omega
                    have g2n : ¬ 0 < k := by omega
                    have g2d : decide ((k : Int) > 0) = false := decide_eq_false g2
                    clear hk0
                    have hv : Hid ((M : Nat) = D (i' + 1 + 1) (k + 1)) := Lib.hid (by rw [hS, if_neg (by omega)])
                    clear hS
                    go_quiet (fail)
                    go_wp2
                    refine ⟨⟨k + 1, rfl, by omega, ?_, ?_⟩, by simp only [intOf, Int.toNat_natCast]; omega⟩
                    · refine (RW.set (RW.keeps hRn (Z := none') ?_ (fun h => h)) (k + 1) (by omega) _).congr (fun j hj => ?_)
                      · exact ⟨rfl, rfl, rfl, Nat.le_refl _, fun _ _ _ => rfl⟩
                      · by_cases e : j = k + 1
                        · rw [if_pos e, if_pos (by omega), e]; exact congrArg _ hv.out
                        · rw [if_neg e]
                          by_cases e2 : j ≤ k
                          · rw [if_pos e2, if_pos (by omega)]
                          · rw [if_neg e2, if_neg (by omega)]
                    · refine hKn.trans (Z' := fun q => q = gn) (Keeps.trans (Z := fun q => q = gn) (Z' := fun q => q = gn) ?_ (Keeps.setCell (Z := fun q => q = gn) _ _ _ rfl) (fun _ _ e => e)) (fun _ _ e => e)
                      exact ⟨rfl, rfl, rfl, Nat.le_refl _, fun _ _ _ => rfl⟩
                  · have g2 : (k : Int) > 0 := by omega
                    obtain ⟨k', rfl⟩ : ∃ k', k = k' + 1 := ⟨k - 1, by omega⟩
                    obtain ⟨yp, hyp⟩ : ∃ yp, Y[k']? = some yp := ⟨_, List.getElem?_eq_getElem (by omega)⟩
                    obtain ⟨_, e1, hcyp⟩ := R2 _ _ hyp
                    injection e1 with e1
                    injection e1 with e1
                    subst e1
                    have gyp := gX_at hyp
                    have em1 : IntKind.i64.wrap ((k' : Int) + 1 - 1) = (k' : Int) := by rw [wrap_in' (by omega) (by omega)]; omega
                    have em2 : IntKind.i64.wrap ((i' : Int) + 1 - 1) = (i' : Int) := by rw [wrap_in' (by omega) (by omega)]; omega
                    have em1' : IntKind.i64.wrap (k' : Int) = (k' : Int) := wrap_in' (by omega) (by omega)
                    have em2' : IntKind.i64.wrap (i' : Int) = (i' : Int) := wrap_in' (by omega) (by omega)
                    have i5 : (0 : Int) ≤ (i' : Int) + 1 := by omega
                    have i6 : (i' : Int) + 1 < (X.length : Int) := by omega
                    have k5 : (0 : Int) ≤ (k' : Int) + 1 := by omega
                    have k6 : (k' : Int) + 1 < (N : Int) := by omega
                    have k7 : (k' : Int) + 1 < (N : Int) + 1 := by omega
                    have g3 : (0 : Int) < (i' : Int) + 1 := by omega
                    have g4 : (0 : Int) < (k' : Int) + 1 := by omega
                    have p1 : (k' : Int) < (N : Int) := by omega
                    have p2 : (i' : Int) < (X.length : Int) := by omega
                    rw [show k' + 1 - 1 = k' from rfl, show i' + 1 - 1 = i' from rfl, gyp, gxp] at hS
                    by_cases q1 : xi = yp
                    · have q1b := beqT q1
                      by_cases q2 : xp = yk
                      · have q2b := beqT q2
                        have t0 := hRp.c k' (by omega)
                        obtain ⟨E, hE⟩ : ∃ E, D i' k' = E := ⟨_, rfl⟩
                        rw [hE] at t0 hS
                        have hEl : E ≤ 1000000 := by have := Hle.out i' k'; rw [hE] at this; omega
                        have em3 := wrapN E (by omega)
                        obtain ⟨V, hV⟩ : ∃ V, min M (E + 1) = V := ⟨_, rfl⟩
                        have hm3 : (if (E : Int) + 1 < (M : Int) then (E : Int) + 1 else (M : Int)) = (V : Int) := by rw [← hV]; split <;> omega
                        have hm4 : (if E + 1 < M then (E : Int) + 1 else (M : Int)) = (V : Int) := by rw [← hV]; split <;> omega
                        have hv : Hid ((V : Nat) = D (i' + 1 + 1) (k' + 1 + 1)) := Lib.hid (by rw [hS, if_pos ⟨by omega, by omega, q1, q2⟩, hV])
                        clear hS hV hE
                        go_quiet (fail)
                        go_wp2
                        refine ⟨⟨k' + 1 + 1, rfl, by omega, ?_, ?_⟩, by simp only [intOf, Int.toNat_natCast]; omega⟩
                        · refine (RW.set (RW.keeps hRn (Z := none') ?_ (fun h => h)) (k' + 1 + 1) (by omega) _).congr (fun j hj => ?_)
                          · exact ⟨rfl, rfl, rfl, Nat.le_refl _, fun _ _ _ => rfl⟩
                          · by_cases e : j = k' + 1 + 1
                            · rw [if_pos e, if_pos (by omega), e]; exact congrArg _ hv.out
                            · rw [if_neg e]
                              by_cases e2 : j ≤ k' + 1
                              · rw [if_pos e2, if_pos (by omega)]
                              · rw [if_neg e2, if_neg (by omega)]
                        · refine hKn.trans (Z' := fun q => q = gn) (Keeps.trans (Z := fun q => q = gn) (Z' := fun q => q = gn) ?_ (Keeps.setCell (Z := fun q => q = gn) _ _ _ rfl) (fun _ _ e => e)) (fun _ _ e => e)
                          exact ⟨rfl, rfl, rfl, Nat.le_refl _, fun _ _ _ => rfl⟩
                      · have q2b := beqF q2
                        have hv : Hid ((M : Nat) = D (i' + 1 + 1) (k' + 1 + 1)) := Lib.hid (by rw [hS, if_neg (fun h => q2 h.2.2.2)])
                        clear hS
                        go_quiet (fail)
                        go_wp2
                        refine ⟨⟨k' + 1 + 1, rfl, by omega, ?_, ?_⟩, by simp only [intOf, Int.toNat_natCast]; omega⟩
                        · refine (RW.set (RW.keeps hRn (Z := none') ?_ (fun h => h)) (k' + 1 + 1) (by omega) _).congr (fun j hj => ?_)
                          · exact ⟨rfl, rfl, rfl, Nat.le_refl _, fun _ _ _ => rfl⟩
                          · by_cases e : j = k' + 1 + 1
                            · rw [if_pos e, if_pos (by omega), e]; exact congrArg _ hv.out
                            · rw [if_neg e]
                              by_cases e2 : j ≤ k' + 1
                              · rw [if_pos e2, if_pos (by omega)]
                              · rw [if_neg e2, if_neg (by omega)]
                        · refine hKn.trans (Z' := fun q => q = gn) (Keeps.trans (Z := fun q => q = gn) (Z' := fun q => q = gn) ?_ (Keeps.setCell (Z := fun q => q = gn) _ _ _ rfl) (fun _ _ e => e)) (fun _ _ e => e)
                          exact ⟨rfl, rfl, rfl, Nat.le_refl _, fun _ _ _ => rfl⟩
                    · have q1b := beqF q1
                      have hv : Hid ((M : Nat) = D (i' + 1 + 1) (k' + 1 + 1)) := Lib.hid (by rw [hS, if_neg (fun h => q1 h.2.2.1)])
                      clear hS
                      go_quiet (fail)
                      go_wp2
                      refine ⟨⟨k' + 1 + 1, rfl, by omega, ?_, ?_⟩, by simp only [intOf, Int.toNat_natCast]; omega⟩
                      · refine (RW.set (RW.keeps hRn (Z := none') ?_ (fun h => h)) (k' + 1 + 1) (by omega) _).congr (fun j hj => ?_)
                        · exact ⟨rfl, rfl, rfl, Nat.le_refl _, fun _ _ _ => rfl⟩
                        · by_cases e : j = k' + 1 + 1
                          · rw [if_pos e, if_pos (by omega), e]; exact congrArg _ hv.out
                          · rw [if_neg e]
                            by_cases e2 : j ≤ k' + 1
                            · rw [if_pos e2, if_pos (by omega)]
                            · rw [if_neg e2, if_neg (by omega)]
                      · refine hKn.trans (Z' := fun q => q = gn) (Keeps.trans (Z := fun q => q = gn) (Z' := fun q => q = gn) ?_ (Keeps.setCell (Z := fun q => q = gn) _ _ _ rfl) (fun _ _ e => e)) (fun _ _ e => e)
                        exact ⟨rfl, rfl, rfl, Nat.le_refl _, fun _ _ _ => rfl⟩
              · have x1 : (xi != yk) = true := by simp only [bne, beqF hxy, Bool.not_false]
                rw [if_neg hxy] at hS
                obtain ⟨U, hU⟩ : ∃ U, min A B = U := ⟨_, rfl⟩
                have hm1 : (if (B : Int) < (A : Int) then (B : Int) else (A : Int)) = (U : Int) := by rw [← hU]; split <;> omega
                have hm1' : (if B < A then (B : Int) else (A : Int)) = (U : Int) := by rw [← hU]; split <;> omega
                obtain ⟨U2, hU2⟩ : ∃ U2, min U C = U2 := ⟨_, rfl⟩
                have hm2 : (if (C : Int) < (U : Int) then (C : Int) else (U : Int)) = (U2 : Int) := by rw [← hU2]; split <;> omega
                have hm2' : (if C < U then (C : Int) else (U : Int)) = (U2 : Int) := by rw [← hU2]; split <;> omega
                rw [hU, hU2] at hS
                have eU := wrapN U2 (by omega)
                obtain ⟨M, hM⟩ : ∃ M, U2 + 1 = M := ⟨_, rfl⟩
                have hM' : (U2 : Int) + 1 = (M : Int) := by omega
                rw [hM] at hS eU
                clear hU hU2
                go_wp2
                go_region
                go_wp2
                go_region
                go_wp2
                by_cases hi0 : i = 0
                · have g1 : ¬ (i : Int) > 0 := by omega
                  have g1n : ¬ 0 < i := by omega
                  have g1d : decide ((i : Int) > 0) = false := decide_eq_false g1
                  clear hi0
                  have hv : Hid ((M : Nat) = D (i + 1) (k + 1)) := Lib.hid (by rw [hS, if_neg (by omega)])
                  clear hS
                  go_quiet (fail)
                  go_wp2
                  refine ⟨⟨k + 1, rfl, by omega, ?_, ?_⟩, by simp only [intOf, Int.toNat_natCast]; omega⟩
                  · refine (RW.set (RW.keeps hRn (Z := none') ?_ (fun h => h)) (k + 1) (by omega) _).congr (fun j hj => ?_)
                    · exact ⟨rfl, rfl, rfl, Nat.le_refl _, fun _ _ _ => rfl⟩
                    · by_cases e : j = k + 1
                      · rw [if_pos e, if_pos (by omega), e]; exact congrArg _ hv.out
                      · rw [if_neg e]
                        by_cases e2 : j ≤ k
                        · rw [if_pos e2, if_pos (by omega)]
                        · rw [if_neg e2, if_neg (by omega)]
                  · refine hKn.trans (Z' := fun q => q = gn) (Keeps.trans (Z := fun q => q = gn) (Z' := fun q => q = gn) ?_ (Keeps.setCell (Z := fun q => q = gn) _ _ _ rfl) (fun _ _ e => e)) (fun _ _ e => e)
                    exact ⟨rfl, rfl, rfl, Nat.le_refl _, fun _ _ _ => rfl⟩
                · have g1 : (i : Int) > 0 := by omega
                  obtain ⟨i', rfl⟩ : ∃ i', i = i' + 1 := ⟨i - 1, by omega⟩
                  obtain ⟨g1', e11, hn1, hRp⟩ := hv11 i' rfl
                  subst e11
                  have hlp := hRp.lt
                  rw [hgn] at hlp
                  have hRp := hRp.keeps hK1 (by omega)
                  obtain ⟨xp, hxp⟩ : ∃ xp, X[i']? = some xp := ⟨_, List.getElem?_eq_getElem (by omega)⟩
                  obtain ⟨_, e1, hcxp⟩ := R1 _ _ hxp
                  injection e1 with e1
                  injection e1 with e1
                  subst e1
                  have gxp := gX_at hxp
                  by_cases hk0 : k = 0
                  · have g2 : ¬ (k : Int) > 0 := by omega
                    have g2n : ¬ 0 < k := by omega
                    have g2d : decide ((k : Int) > 0) = false := decide_eq_false g2
                    clear hk0
                    have hv : Hid ((M : Nat) = D (i' + 1 + 1) (k + 1)) := Lib.hid (by rw [hS, if_neg (by omega)])
                    clear hS
                    go_quiet (fail)
                    go_wp2
                    refine ⟨⟨k + 1, rfl, by omega, ?_, ?_⟩, by simp only [intOf, Int.toNat_natCast]; omega⟩
                    · refine (RW.set (RW.keeps hRn (Z := none') ?_ (fun h => h)) (k + 1) (by omega) _).congr (fun j hj => ?_)
                      · exact ⟨rfl, rfl, rfl, Nat.le_refl _, fun _ _ _ => rfl⟩
                      · by_cases e : j = k + 1
                        · rw [if_pos e, if_pos (by omega), e]; exact congrArg _ hv.out
                        · rw [if_neg e]
                          by_cases e2 : j ≤ k
                          · rw [if_pos e2, if_pos (by omega)]
                          · rw [if_neg e2, if_neg (by omega)]
                    · refine hKn.trans (Z' := fun q => q = gn) (Keeps.trans (Z := fun q => q = gn) (Z' := fun q => q = gn) ?_ (Keeps.setCell (Z := fun q => q = gn) _ _ _ rfl) (fun _ _ e => e)) (fun _ _ e => e)
                      exact ⟨rfl, rfl, rfl, Nat.le_refl _, fun _ _ _ => rfl⟩
                  · have g2 : (k : Int) > 0 := by omega
                    obtain ⟨k', rfl⟩ : ∃ k', k = k' + 1 := ⟨k - 1, by omega⟩
                    obtain ⟨yp, hyp⟩ : ∃ yp, Y[k']? = some yp := ⟨_, List.getElem?_eq_getElem (by omega)⟩
                    obtain ⟨_, e1, hcyp⟩ := R2 _ _ hyp
                    injection e1 with e1
                    injection e1 with e1
                    subst e1
                    have gyp := gX_at hyp
                    have em1 : IntKind.i64.wrap ((k' : Int) + 1 - 1) = (k' : Int) := by rw [wrap_in' (by omega) (by omega)]; omega
                    have em2 : IntKind.i64.wrap ((i' : Int) + 1 - 1) = (i' : Int) := by rw [wrap_in' (by omega) (by omega)]; omega
                    have em1' : IntKind.i64.wrap (k' : Int) = (k' : Int) := wrap_in' (by omega) (by omega)
                    have em2' : IntKind.i64.wrap (i' : Int) = (i' : Int) := wrap_in' (by omega) (by omega)
                    have i5 : (0 : Int) ≤ (i' : Int) + 1 := by omega
                    have i6 : (i' : Int) + 1 < (X.length : Int) := by omega
                    have k5 : (0 : Int) ≤ (k' : Int) + 1 := by omega
                    have k6 : (k' : Int) + 1 < (N : Int) := by omega
                    have k7 : (k' : Int) + 1 < (N : Int) + 1 := by omega
                    have g3 : (0 : Int) < (i' : Int) + 1 := by omega
                    have g4 : (0 : Int) < (k' : Int) + 1 := by omega
                    have p1 : (k' : Int) < (N : Int) := by omega
                    have p2 : (i' : Int) < (X.length : Int) := by omega
                    rw [show k' + 1 - 1 = k' from rfl, show i' + 1 - 1 = i' from rfl, gyp, gxp] at hS
                    by_cases q1 : xi = yp
                    · have q1b := beqT q1
                      by_cases q2 : xp = yk
                      · have q2b := beqT q2
                        have t0 := hRp.c k' (by omega)
                        obtain ⟨E, hE⟩ : ∃ E, D i' k' = E := ⟨_, rfl⟩
                        rw [hE] at t0 hS
                        have hEl : E ≤ 1000000 := by have := Hle.out i' k'; rw [hE] at this; omega
                        have em3 := wrapN E (by omega)
                        obtain ⟨V, hV⟩ : ∃ V, min M (E + 1) = V := ⟨_, rfl⟩
                        have hm3 : (if (E : Int) + 1 < (M : Int) then (E : Int) + 1 else (M : Int)) = (V : Int) := by rw [← hV]; split <;> omega
                        have hm4 : (if E + 1 < M then (E : Int) + 1 else (M : Int)) = (V : Int) := by rw [← hV]; split <;> omega
                        have hv : Hid ((V : Nat) = D (i' + 1 + 1) (k' + 1 + 1)) := Lib.hid (by rw [hS, if_pos ⟨by omega, by omega, q1, q2⟩, hV])
                        clear hS hV hE
                        go_quiet (fail)
                        go_wp2
                        refine ⟨⟨k' + 1 + 1, rfl, by omega, ?_, ?_⟩, by simp only [intOf, Int.toNat_natCast]; omega⟩
                        · refine (RW.set (RW.keeps hRn (Z := none') ?_ (fun h => h)) (k' + 1 + 1) (by omega) _).congr (fun j hj => ?_)
                          · exact ⟨rfl, rfl, rfl, Nat.le_refl _, fun _ _ _ => rfl⟩
                          · by_cases e : j = k' + 1 + 1
                            · rw [if_pos e, if_pos (by omega), e]; exact congrArg _ hv.out
                            · rw [if_neg e]
                              by_cases e2 : j ≤ k' + 1
                              · rw [if_pos e2, if_pos (by omega)]
                              · rw [if_neg e2, if_neg (by omega)]
                        · refine hKn.trans (Z' := fun q => q = gn) (Keeps.trans (Z := fun q => q = gn) (Z' := fun q => q = gn) ?_ (Keeps.setCell (Z := fun q => q = gn) _ _ _ rfl) (fun _ _ e => e)) (fun _ _ e => e)
                          exact ⟨rfl, rfl, rfl, Nat.le_refl _, fun _ _ _ => rfl⟩
                      · have q2b := beqF q2
                        have hv : Hid ((M : Nat) = D (i' + 1 + 1) (k' + 1 + 1)) := Lib.hid (by rw [hS, if_neg (fun h => q2 h.2.2.2)])
                        clear hS
                        go_quiet (fail)
                        go_wp2
                        refine ⟨⟨k' + 1 + 1, rfl, by omega, ?_, ?_⟩, by simp only [intOf, Int.toNat_natCast]; omega⟩
                        · refine (RW.set (RW.keeps hRn (Z := none') ?_ (fun h => h)) (k' + 1 + 1) (by omega) _).congr (fun j hj => ?_)
                          · exact ⟨rfl, rfl, rfl, Nat.le_refl _, fun _ _ _ => rfl⟩
                          · by_cases e : j = k' + 1 + 1
                            · rw [if_pos e, if_pos (by omega), e]; exact congrArg _ hv.out
                            · rw [if_neg e]
                              by_cases e2 : j ≤ k' + 1
                              · rw [if_pos e2, if_pos (by omega)]
                              · rw [if_neg e2, if_neg (by omega)]
                        · refine hKn.trans (Z' := fun q => q = gn) (Keeps.trans (Z := fun q => q = gn) (Z' := fun q => q = gn) ?_ (Keeps.setCell (Z := fun q => q = gn) _ _ _ rfl) (fun _ _ e => e)) (fun _ _ e => e)
                          exact ⟨rfl, rfl, rfl, Nat.le_refl _, fun _ _ _ => rfl⟩
                    · have q1b := beqF q1
                      have hv : Hid ((M : Nat) = D (i' + 1 + 1) (k' + 1 + 1)) := Lib.hid (by rw [hS, if_neg (fun h => q1 h.2.2.1)])
                      clear hS
                      go_quiet (fail)
                      go_wp2
                      refine ⟨⟨k' + 1 + 1, rfl, by omega, ?_, ?_⟩, by simp only [intOf, Int.toNat_natCast]; omega⟩
                      · refine (RW.set (RW.keeps hRn (Z := none') ?_ (fun h => h)) (k' + 1 + 1) (by omega) _).congr (fun j hj => ?_)
                        · exact ⟨rfl, rfl, rfl, Nat.le_refl _, fun _ _ _ => rfl⟩
                        · by_cases e : j = k' + 1 + 1
                          · rw [if_pos e, if_pos (by omega), e]; exact congrArg _ hv.out
                          · rw [if_neg e]
                            by_cases e2 : j ≤ k' + 1
                            · rw [if_pos e2, if_pos (by omega)]
                            · rw [if_neg e2, if_neg (by omega)]
                      · refine hKn.trans (Z' := fun q => q = gn) (Keeps.trans (Z := fun q => q = gn) (Z' := fun q => q = gn) ?_ (Keeps.setCell (Z := fun q => q = gn) _ _ _ rfl) (fun _ _ e => e)) (fun _ _ e => e)
                        exact ⟨rfl, rfl, rfl, Nat.le_refl _, fun _ _ _ => rfl⟩
            · have i3 : ¬ (k : Int) < (N : Int) := by omega
              have hkE : k = N := by omega
              go_wp2
              exact ⟨⟨i + 1, gn, rfl, by omega, rfl, hRn.congr (fun j hj => by rw [if_pos (by omega)]), fun i' e => ⟨g, rfl, by omega, hRg1.congr (fun j hj => by rw [show i' = i from by omega])⟩, hKw⟩, by simp only [intOf]; omega⟩
        · have i2 : ¬ (i : Int) < (X.length : Int) := by omega
          have hiE : i = X.length := by omega
          subst hiE
          have cN := hRg.c N (Nat.le_refl _)
          have bfin : Below w.heap.size w wr := bw.trans (hKi.below (B := w.heap.size) bw.size (fun k hk => by have h1 := bw.size; have h2 : g0 ≤ k := hk; omega))
          by_cases hm : ((D X.length N : Nat) : Int) ≤ most
          · go_wp2
            go_ret2
            exact ⟨by first | rfl | (rw [if_pos hm] <;> rfl), bfin⟩
          · go_wp2
            go_ret2
            exact ⟨by first | rfl | (rw [if_neg hm] <;> rfl), bfin⟩
end Go.Proofs.YtlomjbfhalmalaaGreatDoor.C
set_option linter.unusedVariables false
set_option linter.unusedSimpArgs false
namespace Go.Proofs.YtlomjbfhalmalaaGreatDoor.C
open Go Go.RowKit Go.Shelf Go.Proofs.YtlomjbfhalmalaaGreatDoor.M Go.Proofs.YtlomjbfhalmalaaGreatDoor.Z Go.Proofs.YtlomjbfhalmalaaGreatDoor.H Go.Proofs.YtlomjbfhalmalaaGreatDoor.PAll Go.Proofs.YtlomjbfhalmalaaGreatDoorW.PrintWords Go.Proofs.YtlomjbfhalmalaaGreatDoorW.PrintLast Go.Proofs.YtlomjbfhalmalaaGreatDoorW.PrintMore
theorem like1 : glob (toks (pts (bl ⟨#[99, 42, 116]⟩))) (pts (bl ⟨#[99, 97, 116]⟩)) = true := by decide +kernel
theorem like2 : glob (toks (pts (bl ⟨#[99, 63, 116]⟩))) (pts (bl ⟨#[99, 116]⟩)) = false := by decide +kernel
theorem pcat : pts (bl ⟨#[99, 97, 116]⟩) = [99, 97, 116] := by decide +kernel
theorem pcart : pts (bl ⟨#[99, 97, 114, 116]⟩) = [99, 97, 114, 116] := by decide +kernel
theorem edcat : ed (gX [99, 97, 116]) (gX [99, 97, 114, 116]) 3 4 = 1 := by
  simp [ed, gX]
theorem same_A : glossaryref0_SameQuery.f 60 7 ⟨#[]⟩ ⟨#[]⟩ 0 [notS 1 [97], lfS 2 [98]] 7 ⟨#[]⟩ ⟨#[]⟩ 0 [notS 1 [97], lfS 2 [98]] = some true := by decide +kernel
set_option maxHeartbeats 1000000 in
theorem word_any (s : ByteArray) (w : World) : Calls Tryz.prog 27 #[.string s] w fun e w' => e = .returned (.agg #[.int .i64 1, .string s, .string ⟨#[]⟩, .int .i64 0, .slice none 0 0]) ∧ w' = w.alloc (.cells #[.int .i64 1, .string s, .string ⟨#[]⟩, .int .i64 0, .slice none 0 0] 24) := by
  go_enter Tryz.func27, Tryz.ntmps27
  go_wp2
  simp [bodyPost, results, Tryz.results27, go_sem]
set_option maxHeartbeats 8000000 in
set_option maxRecDepth 100000 in
theorem works_any (w : World) (hT' : hT w) (hE : HE w) :
    Calls Tryz.prog 17 #[] w fun e w' => e = .returned (.bool true) ∧ Below w.heap.size w w' := by
  obtain ⟨wu, hu⟩ : ∃ wu, w.alloc (.cells (leafC 1 [97]) 24) = wu := ⟨_, rfl⟩
  have ku : Keeps none' w wu := by rw [← hu]; exact Keeps.alloc _ _ _
  have hTu := hT_keeps hT' ku (fun h => h) (fun h => h)
  have hEu : HE wu := ku.cell hE (fun h => h)
  have Hu := Lib.hid hu
  clear hu
  have hlt := hT_lt hTu
  have kA : Keeps none' wu (wu.alloc (.cells (leafC 1 [97]) 24)) := Keeps.alloc _ _ _
  have kB : Keeps none' (wu.alloc (.cells (leafC 1 [97]) 24)) ((wu.alloc (.cells (leafC 1 [97]) 24)).alloc (.cells (notC wu.heap.size ++ leafL 2 [98]).toArray 24)) := Keeps.alloc _ _ _
  have kC : Keeps none' ((wu.alloc (.cells (leafC 1 [97]) 24)).alloc (.cells (notC wu.heap.size ++ leafL 2 [98]).toArray 24)) (((wu.alloc (.cells (leafC 1 [97]) 24)).alloc (.cells (notC wu.heap.size ++ leafL 2 [98]).toArray 24)).alloc (.cells #[.int .i64 7, .string ⟨#[]⟩, .string ⟨#[]⟩, .int .i64 0, .slice (some ⟨wu.heap.size + 1, 0, none⟩) 2 2] 24)) := Keeps.alloc _ _ _
  have z1 : (wu.alloc (.cells (leafC 1 [97]) 24)).heap.size = wu.heap.size + 1 := by simp
  have z2 : ((wu.alloc (.cells (leafC 1 [97]) 24)).alloc (.cells (notC wu.heap.size ++ leafL 2 [98]).toArray 24)).heap.size = wu.heap.size + 2 := by simp
  have hA := kC.obj (kB.obj (heap_alloc_new wu (.cells (leafC 1 [97]) 24)) (fun h => h)) (fun h => h)
  have hB := kC.obj (heap_alloc_new (wu.alloc (.cells (leafC 1 [97]) 24)) (.cells (notC wu.heap.size ++ leafL 2 [98]).toArray 24)) (fun h => h)
  have hC := heap_alloc_new ((wu.alloc (.cells (leafC 1 [97]) 24)).alloc (.cells (notC wu.heap.size ++ leafL 2 [98]).toArray 24)) (.cells #[.int .i64 7, .string ⟨#[]⟩, .string ⟨#[]⟩, .int .i64 0, .slice (some ⟨wu.heap.size + 1, 0, none⟩) 2 2] 24)
  rw [z1] at hB
  rw [z2] at hC
  have k3 := (kA.trans kB (fun _ _ h => h)).trans kC (fun _ _ h => h)
  obtain ⟨wA, hwA⟩ : ∃ wA, (((wu.alloc (.cells (leafC 1 [97]) 24)).alloc (.cells (notC wu.heap.size ++ leafL 2 [98]).toArray 24)).alloc (.cells #[.int .i64 7, .string ⟨#[]⟩, .string ⟨#[]⟩, .int .i64 0, .slice (some ⟨wu.heap.size + 1, 0, none⟩) 2 2] 24)) = wA := ⟨_, rfl⟩
  rw [hwA] at hA hB hC k3
  have cP := parse_A wA (hT_keeps hTu k3 (fun h => h) (fun h => h))
  rw [← hwA] at cP
  have HwA := Lib.hid hwA
  have cEd : ∀ W, Calls Tryz.prog 20 #[.string ⟨#[99, 97, 116]⟩, .string ⟨#[99, 97, 114, 116]⟩, .int .i64 3] W fun e wu' => e = .returned (.tuple #[.int .i64 1, .bool true]) ∧ Below W.heap.size W wu' := fun W => by
    have := edits_any ⟨#[99, 97, 116]⟩ ⟨#[99, 97, 114, 116]⟩ 3 W (by decide) (by decide)
    rw [pcat, pcart, show [(99 : Int), 97, 116].length = 3 from rfl, show [(99 : Int), 97, 114, 116].length = 4 from rfl, edcat, if_pos (by decide)] at this
    exact this
  have cL1 : ∀ W, Calls Tryz.prog 18 #[.string ⟨#[99, 42, 116]⟩, .string ⟨#[99, 97, 116]⟩] W fun e wu' => e = .returned (.bool true) ∧ Below W.heap.size W wu' := fun W => by
    have := like_any ⟨#[99, 42, 116]⟩ ⟨#[99, 97, 116]⟩ W (by decide) (by decide)
    rw [like1] at this
    exact this
  have cL2 : ∀ W, Calls Tryz.prog 18 #[.string ⟨#[99, 63, 116]⟩, .string ⟨#[99, 116]⟩] W fun e wu' => e = .returned (.bool false) ∧ Below W.heap.size W wu' := fun W => by
    have := like_any ⟨#[99, 63, 116]⟩ ⟨#[99, 116]⟩ W (by decide) (by decide)
    rw [like2] at this
    exact this
  have cells : ∀ W, Keeps none' wA W → ∀ j u, (notC wu.heap.size ++ leafL 2 [98])[j]? = some u → W.cell? ⟨wu.heap.size + 1, j, none⟩ = some u := fun W hW j u hj => by
    have h1 := hW.obj hB (fun h => h)
    simp only [World.cell?, h1]
    simpa using hj
  have cwant : ∀ W, Keeps none' wA W → W.cell? ⟨wu.heap.size + 1 + 1, 0, none⟩ = some (.int .i64 7) ∧ W.cell? ⟨wu.heap.size + 1 + 1, 1, none⟩ = some (.string ⟨#[]⟩) ∧ W.cell? ⟨wu.heap.size + 1 + 1, 2, none⟩ = some (.string ⟨#[]⟩) ∧ W.cell? ⟨wu.heap.size + 1 + 1, 3, none⟩ = some (.int .i64 0) ∧ W.cell? ⟨wu.heap.size + 1 + 1, 4, none⟩ = some (.slice (some ⟨wu.heap.size + 1, 0, none⟩) 2 2) := fun W hW => by
    have h1 := hW.obj hC (fun h => h)
    exact ⟨cell_of_row _ _ _ _ _ _ h1, cell_of_row _ _ _ _ _ _ h1, cell_of_row _ _ _ _ _ _ h1, cell_of_row _ _ _ _ _ _ h1, cell_of_row _ _ _ _ _ _ h1⟩
  have cA' : ∀ W, Keeps none' wA W → W.heap[wu.heap.size]? = some (.cells (leafC 1 [97]) 24 (0, 0)) := fun W hW => hW.obj hA (fun h => h)
  have sA' : wu.heap.size + 3 ≤ wA.heap.size := by
    rw [← hwA]; simp
  clear hwA kA kB kC z1 z2 hA hB hC
  go_enter Tryz.func17, Tryz.ntmps17
  go_wp2_with fail
  refine (word_any _ _).mono ?_
  rintro e w0 ⟨rfl, h0⟩
  have h0' : wu = w0 := (Hu.out).symm.trans h0.symm
  clear h0
  subst h0'
  go_wp2_with fail
  refine cP.mono ?_
  rintro e w1 ⟨v, rfl, hq, hb1⟩
  rw [HwA.out] at hq hb1
  obtain ⟨g, cap, rfl, _, _⟩ := hq.C
  have k1 := Keeps.of_below0 hb1
  have kq : Keeps none' w1 (w1.alloc (.cells #[.int .i64 7, .string ⟨#[]⟩, .string ⟨#[]⟩, .int .i64 0, .slice (some ⟨g, 0, none⟩) 2 cap] 24)) := Keeps.alloc _ _ _
  have bq := heap_alloc_new w1 (.cells #[.int .i64 7, .string ⟨#[]⟩, .string ⟨#[]⟩, .int .i64 0, .slice (some ⟨g, 0, none⟩) 2 cap] 24)
  have k2 := k1.trans kq (fun _ _ h => h)
  have hq2 := hq.keeps kq (fun k _ h => h)
  obtain ⟨c0, c1, c2, c3, c4⟩ := cwant _ k2
  have hT2 := hT_keeps hTu (k3.trans k2 (fun _ _ h => h)) (fun h => h) (fun h => h)
  have hsz1 := k1.size
  have hlb : w1.heap.size < (w1.alloc (.cells #[.int .i64 7, .string ⟨#[]⟩, .string ⟨#[]⟩, .int .i64 0, .slice (some ⟨g, 0, none⟩) 2 cap] 24)).heap.size := by simp
  go_wp2_with fail
  refine (print_A _ hT2 (wu.heap.size + 1) wu.heap.size 2 (Nat.le_refl _) (by omega) (cA' _ k2) (cells _ k2)).mono ?_
  rintro e w2 ⟨rfl, hb2⟩
  have kp := Keeps.of_below0 hb2
  have k4 := k2.trans kp (fun _ _ h => h)
  have hq3 := hq2.keeps kp (fun k _ h => h)
  have bq2 := kp.obj bq (fun h => h)
  have hT3 := hT_keeps hT2 kp (fun h => h) (fun h => h)
  clear c0 c1 c2 c3 c4
  go_wp2_with fail
  refine (parse_B _ hT3).mono ?_
  rintro e w5 ⟨rfl, hb5⟩
  have kz : Keeps none' w5 (w5.alloc (.cells zeroQ 24)) := Keeps.alloc _ _ _
  have k5 := (Keeps.of_below0 hb5).trans kz (fun _ _ h => h)
  have k6 := k4.trans k5 (fun _ _ h => h)
  have hq4 := hq3.keeps k5 (fun k _ h => h)
  have bq3 := k5.obj bq2 (fun h => h)
  go_wp2_with fail
  refine (cEd _).mono ?_
  rintro e w6 ⟨rfl, hb6⟩
  have k7 := Keeps.of_below0 hb6
  have k8 := k6.trans k7 (fun _ _ h => h)
  have hq5 := hq4.keeps k7 (fun k _ h => h)
  have bq4 := k7.obj bq3 (fun h => h)
  obtain ⟨c0, c1, c2, c3, c4⟩ := cwant _ k8
  have d0 : w6.cell? ⟨w1.heap.size, 0, none⟩ = some (.int .i64 7) := cell_of_row _ _ _ _ _ _ bq4
  have d1 : w6.cell? ⟨w1.heap.size, 1, none⟩ = some (.string ⟨#[]⟩) := cell_of_row _ _ _ _ _ _ bq4
  have d2 : w6.cell? ⟨w1.heap.size, 2, none⟩ = some (.string ⟨#[]⟩) := cell_of_row _ _ _ _ _ _ bq4
  have d3 : w6.cell? ⟨w1.heap.size, 3, none⟩ = some (.int .i64 0) := cell_of_row _ _ _ _ _ _ bq4
  have d4 : w6.cell? ⟨w1.heap.size, 4, none⟩ = some (.slice (some ⟨g, 0, none⟩) 2 cap) := cell_of_row _ _ _ _ _ _ bq4
  have hE6 : HE w6 := k8.cell (k3.cell hEu (fun h => h)) (fun h => h)
  have cS := glossaryref0_SameQuery.calls 60 7 ⟨#[]⟩ ⟨#[]⟩ 0 (some ⟨g, 0, none⟩) cap [notS 1 [97], lfS 2 [98]] 7 ⟨#[]⟩ ⟨#[]⟩ 0 (some ⟨wu.heap.size + 1, 0, none⟩) 2 [notS 1 [97], lfS 2 [98]] true w6 hq5.at.2 hq5.at.1 (C_two (cA' _ k8) (cells _ k8)) (Nat.le_refl _) same_A
  go_wp2_with fail
  refine cS.mono ?_
  rintro e w7 ⟨rfl, hb7⟩
  have k9 := Keeps.of_below0 hb7
  have hE7 : HE w7 := k9.cell hE6 (fun h => h)
  go_wp2_with fail
  refine (Go.Proofs.YtlomjbfhalmalaaGreatDoor.E.at_fault 25 0 2 w7 (by decide) (by decide) hE7).mono ?_
  rintro e w8 ⟨rfl, hb8⟩
  have k10 := k9.trans (Keeps.of_below0 hb8) (fun _ _ h => h)
  go_wp2_with fail
  refine (cL1 _).mono ?_
  rintro e w9 ⟨rfl, hb9⟩
  have k11 := k10.trans (Keeps.of_below0 hb9) (fun _ _ h => h)
  go_wp2_with fail
  refine (cL2 _).mono ?_
  rintro e w10 ⟨rfl, hb10⟩
  have k12 := ((k3.trans k8 (fun _ _ h => h)).trans k11 (fun _ _ h => h)).trans (Keeps.of_below0 hb10) (fun _ _ h => h)
  have fin : Below w.heap.size w w10 := (ku.trans k12 (fun _ _ h => h)).below (Nat.le_refl _) (fun _ h => h.elim)
  clear cL1 cL2 cEd cells cwant cA' cS cP
  go_wp2_with fail
  go_ret
  exact ⟨rfl, fin⟩
end Go.Proofs.YtlomjbfhalmalaaGreatDoor.C
set_option linter.unusedVariables false
set_option linter.unusedSimpArgs false
namespace Go.Proofs.YtlomjbfhalmalaaGreatDoor.C
open Go Go.RowKit Go.Shelf Go.Proofs.YtlomjbfhalmalaaGreatDoor.M Go.Proofs.YtlomjbfhalmalaaGreatDoor.Z Go.Proofs.YtlomjbfhalmalaaGreatDoor.H Go.Proofs.YtlomjbfhalmalaaGreatDoor.PAll Go.Proofs.YtlomjbfhalmalaaGreatDoorW.PrintWords Go.Proofs.YtlomjbfhalmalaaGreatDoorW.PrintLast Go.Proofs.YtlomjbfhalmalaaGreatDoorW.PrintMore
theorem dec_l0 (xs ys : List Int) (he : xs.length = ys.length) (hl : xs.length ≤ 1000000) : ∀ m i : Nat, i + m = xs.length → glossaryref0_SameRunes.l0 (m + 1) xs ys i = some (decide (xs.drop i = ys.drop i))
  | 0, i, h => by
    unfold glossaryref0_SameRunes.l0
    rw [if_neg (by omega), List.drop_of_length_le (by omega), List.drop_of_length_le (by omega)]
    simp
  | m + 1, i, h => by
    have h1 : i < xs.length := by omega
    have h2 : i < ys.length := by omega
    have e1 : xs[i]? = some xs[i] := List.getElem?_eq_getElem h1
    have e2 : ys[i]? = some ys[i] := List.getElem?_eq_getElem h2
    unfold glossaryref0_SameRunes.l0
    rw [if_pos (by omega), if_pos (by omega), if_pos (by omega), rd_some e1, rd_some e2, wi i (by omega)]
    have d1 := List.drop_eq_getElem_cons h1
    have d2 := List.drop_eq_getElem_cons h2
    have D : decide (List.drop i xs = List.drop i ys) = decide (xs[i] :: List.drop (i + 1) xs = ys[i] :: List.drop (i + 1) ys) := by rw [← d1, ← d2]
    rw [D]
    clear D d1 d2
    by_cases hc : xs[i] = ys[i]
    · rw [if_pos hc, dec_l0 xs ys he hl m (i + 1) (by omega)]
      congr 1
      exact decide_eq_decide.2 ⟨fun h => by rw [hc, h], fun h => (List.cons.inj h).2⟩
    · rw [if_neg hc]
      congr 1
      exact (decide_eq_false fun h => hc (List.cons.inj h).1).symm
theorem dec_ref (xs ys : List Int) (hl : xs.length ≤ 1000000) : ∃ k, glossaryref0_SameRunes.f k xs ys = some (decide (xs = ys)) := by
  by_cases he : xs.length = ys.length
  · refine ⟨xs.length + 1, ?_⟩
    unfold glossaryref0_SameRunes.f
    rw [if_pos (by omega)]
    have := dec_l0 xs ys he hl xs.length 0 (by omega)
    simpa using this
  · refine ⟨0, ?_⟩
    unfold glossaryref0_SameRunes.f
    rw [if_neg (by omega)]
    have : xs ≠ ys := fun h => he (by rw [h])
    simp [this]
theorem RdG.C {w : World} {k : IntKind} {A : Option Addr} {xs : List Int} (h : RdG w A k xs) (hl : xs.length ≤ 1000000) : (Kd.int k).C w A xs.length xs := by
  refine ⟨rfl, by omega, fun hp => ?_⟩
  obtain ⟨g, rfl, _⟩ := h 0 xs[0] (List.getElem?_eq_getElem hp)
  refine ⟨_, rfl, fun j p hj => ⟨[.int k p], rfl, rfl, fun i u hi => ?_⟩⟩
  rcases i with _ | i
  · cases hi
    obtain ⟨g', e, hc⟩ := h j p hj
    cases e
    have e2 : (⟨g, 0, none⟩ : Addr).add j = ⟨g, j, none⟩ := by unfold Addr.add; split <;> simp_all
    simpa [Kd.int, Kd.scalar, e2] using hc
  · simp at hi
theorem RdG.take {w : World} {k : IntKind} {A : Option Addr} {xs : List Int} (h : RdG w A k xs) (n : Nat) : RdG w A k (xs.take n) := fun j u hj => by
  rw [List.getElem?_take] at hj
  split at hj
  · exact h j u hj
  · simp at hj
theorem same_any (A1 A2 : Option Addr) (c1 c2 n1 n2 : Nat) (xs ys : List Int) (w : World) (hx : RdG w A1 .i32 xs) (hy : RdG w A2 .i32 ys) (e1 : n1 = xs.length) (e2 : n2 = ys.length) (k1 : n1 ≤ c1) (k2 : n2 ≤ c2) (l1 : xs.length ≤ 1000000) (l2 : ys.length ≤ 1000000) :
    Calls Tryz.prog 25 #[.slice A1 n1 c1, .slice A2 n2 c2] w fun e w' => e = .returned (.bool (decide (xs = ys))) ∧ Below w.heap.size w w' := by
  subst e1 e2
  obtain ⟨k, hk⟩ := dec_ref xs ys l1
  exact (glossaryref0_SameRunes.calls k A1 c1 xs A2 c2 ys _ w (hx.C l1) k1 (hy.C l2) k2 hk).mono fun e w' h => ⟨h.1, Drawn0.below h.2⟩
end Go.Proofs.YtlomjbfhalmalaaGreatDoor.C
set_option linter.unusedVariables false
set_option linter.unusedSimpArgs false
namespace Go.Proofs.YtlomjbfhalmalaaGreatDoor.C
open Go Go.RowKit Go.Shelf Go.Proofs.YtlomjbfhalmalaaGreatDoor.M Go.Proofs.YtlomjbfhalmalaaGreatDoor.Z Go.Proofs.YtlomjbfhalmalaaGreatDoor.H Go.Proofs.YtlomjbfhalmalaaGreatDoor.PAll Go.Proofs.YtlomjbfhalmalaaGreatDoorW.PrintWords Go.Proofs.YtlomjbfhalmalaaGreatDoorW.PrintLast Go.Proofs.YtlomjbfhalmalaaGreatDoorW.PrintMore
attribute [local go_sem] max2_int min2_int max_two min_two
theorem of_row (s : ByteArray) (X : List Int) (hX : pts (bl s) = X) (w : World) (hs : s.size ≤ 1000000) :
    Calls Tryz.prog 24 #[.string s] w fun e w' => ∃ A c, e = .returned (.slice A X.length c) ∧ X.length ≤ c ∧ RdG w' A .i32 X ∧ Below w.heap.size w w' := by
  subst hX
  have l1 := sfx_len (bl s)
  rw [bl_len] at l1
  exact (of_any s w (by omega) (by omega)).mono fun e w' ⟨v, he, hr, hb⟩ =>
    let ⟨A, c, hv, hl, hg⟩ := hr.readsG
    ⟨A, c, by rw [he, hv], hl, hg, hb⟩
end Go.Proofs.YtlomjbfhalmalaaGreatDoor.C
