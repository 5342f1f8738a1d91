/-
  Of this seat's texts what the claim wants (printed by a program): D6.
-/
import Derived.Test.YtekoeobfddfgpaaGreatDoorRD5
import Derived.StillTailTactics
import Derived.Deep.RegionLaw
set_option linter.unusedVariables false
set_option linter.unusedSimpArgs false
namespace Go.Proofs.YtekoeobfddfgpaaGreatDoor.C
open Go Go.RowKit Go.Shelf Go.Proofs.YtekoeobfddfgpaaGreatDoor.M Go.Proofs.YtekoeobfddfgpaaGreatDoor.Z
theorem runeCount_from (s : ByteArray) : ∀ fuel p, s.size ≤ p + fuel → p ≤ s.size → Lib.runeCountFrom s fuel p = (sfx ((bl s).drop p)).length
  | 0, p, h, hp => by
    have : (bl s).drop p = [] := List.drop_of_length_le (by rw [bl_len]; omega)
    rw [this, sfx_nil]; rfl
  | fuel + 1, p, h, hp => by
    unfold Lib.runeCountFrom
    by_cases hlt : p < s.size
    · have hne := bl_nonempty hlt
      have hd : Utf8.decode s p = (dc ((bl s).drop p), dw ((bl s).drop p)) := (Lib.decodeL_drop s p).symm
      have h1 := dw_pos hne
      have h2 := dw_len hne
      rw [List.length_drop, bl_len] at h2
      rw [if_pos hlt, hd, sfx_cons hne, List.length_cons, List.drop_drop]
      show 1 + Lib.runeCountFrom s fuel (p + dw ((bl s).drop p)) = _
      rw [runeCount_from s fuel _ (by omega) (by omega)]
      omega
    · have : (bl s).drop p = [] := List.drop_of_length_le (by rw [bl_len]; omega)
      rw [if_neg hlt, this, sfx_nil]; rfl
theorem runeCount_sfx (s : ByteArray) : Lib.runeCount s = (sfx (bl s)).length := by
  unfold Lib.runeCount
  rw [runeCount_from s s.size 0 (by omega) (by omega), List.drop_zero]
theorem lastByte_or (x : ByteArray) : ((bl x).count 10 = 0 ∧ Lib.lastIndexByte x 10 = -1) ∨ (∃ i : Nat, i < x.size ∧ Lib.lastIndexByte x 10 = i ∧ (bl x).count 10 ≠ 0 ∧ lastLine (bl x) = (bl x).drop (i + 1)) := by
  have hget : ∀ j, j < x.size → (bl x)[j]? = some (x.data[j]!) := fun j hj => by
    have h : j < x.data.size := hj
    have : (bl x)[j]? = x.data[j]? := by simp [bl]
    rw [this, Array.getElem?_eq_getElem h, getElem!_pos x.data j h]
  have h10 : ∀ b : UInt8, ((b.toNat : Int) = 10) → b = 10 := fun b e => UInt8.toNat_inj.1 (by show b.toNat = 10; omega)
  rcases Lib.lastIndexByte_spec x 10 with ⟨h1, h2⟩ | ⟨i, hi, h1, h2, h3⟩
  · refine .inl ⟨?_, h1⟩
    rw [List.count_eq_zero]
    intro hm
    obtain ⟨j, hj, he⟩ := List.mem_iff_getElem.1 hm
    have hj' : j < x.size := by rw [← bl_len]; exact hj
    have := hget j hj'
    rw [List.getElem?_eq_getElem hj, he] at this
    injection this with this
    exact h2 j hj' (by rw [← this]; rfl)
  · have hil : i < (bl x).length := by rw [bl_len]; exact hi
    have hx : (bl x) = (bl x).take i ++ 10 :: (bl x).drop (i + 1) := by
      have h4 := hget i hi
      rw [h10 _ h2, List.getElem?_eq_getElem hil] at h4
      injection h4 with h4
      rw [← h4, List.getElem_cons_drop, List.take_append_drop]
    have hn : ((bl x).drop (i + 1)).count 10 = 0 := by
      rw [List.count_eq_zero]
      intro hm
      obtain ⟨j, hj, he⟩ := List.mem_iff_getElem.1 hm
      rw [List.getElem_drop] at he
      rw [List.length_drop] at hj
      have hj' : i + 1 + j < x.size := by rw [← bl_len]; omega
      have := hget _ hj'
      rw [List.getElem?_eq_getElem (by omega), he] at this
      injection this with this
      exact h3 _ (by omega) hj' (by rw [← this]; rfl)
    refine .inr ⟨i, hi, h1, ?_, ?_⟩
    · rw [hx, List.count_append]; simp
    · have : ∀ (a r : List UInt8), r.count 10 = 0 → lastLine (a ++ 10 :: r) = r := by
        intro a
        induction a with
        | nil => intro r hr; simp [lastLine, hr]
        | cons c a ih =>
          intro r hr
          have hc : (a ++ 10 :: r).count 10 ≠ 0 := by rw [List.count_append]; simp
          rw [List.cons_append, lastLine, if_neg hc, ih r hr]
      have h6 := this ((bl x).take i) _ hn
      rw [← hx] at h6
      exact h6
structure Sc (w : World) (B b : Nat) (s : ByteArray) (p ln cl : Nat) (v : Value) (n : Nat) (xs : List Value) : Prop where
  le : B ≤ b
  blk : w.heap[b]? = some (.cells #[.string s, .int .i64 (p : Nat), .int .i64 (ln : Nat), .int .i64 (cl : Nat), v] 51 (0, 0))
  row : w.ownsRow B 38 5 v n xs
  ne : v.ownBlock ≠ some b
  ps : p ≤ s.size
  lp : ln ≤ p + 1
  cp : cl ≤ p + 1
theorem Sc.keeps {w w' : World} {B b : Nat} {s : ByteArray} {p ln cl : Nat} {v : Value} {n : Nat} {xs : List Value} {Y : Nat → Prop} (h : Sc w B b s p ln cl v n xs) (hk : Keeps Y w w') (hb : ¬ Y b) (hv : ∀ g, v.ownBlock = some g → ¬ Y g) : Sc w' B b s p ln cl v n xs :=
  ⟨h.le, hk.obj h.blk hb, owns_obj h.row hk hv, h.ne, h.ps, h.lp, h.cp⟩
theorem Sc.cells {w : World} {B b : Nat} {s : ByteArray} {p ln cl : Nat} {v : Value} {n : Nat} {xs : List Value} (h : Sc w B b s p ln cl v n xs) :
    w.cell? ⟨b, 0, none⟩ = some (.string s) ∧ w.cell? ⟨b, 1, none⟩ = some (.int .i64 (p : Nat)) ∧ w.cell? ⟨b, 2, none⟩ = some (.int .i64 (ln : Nat)) ∧ w.cell? ⟨b, 3, none⟩ = some (.int .i64 (cl : Nat)) ∧ w.cell? ⟨b, 4, none⟩ = some v :=
  ⟨cell_of_row _ _ _ _ _ _ h.blk, cell_of_row _ _ _ _ _ _ h.blk, cell_of_row _ _ _ _ _ _ h.blk, cell_of_row _ _ _ _ _ _ h.blk, cell_of_row _ _ _ _ _ _ h.blk⟩
theorem Keeps.drewN (Z : Nat → Prop) (W : World) (n : Nat) : Keeps Z W (W.drewN n) := ⟨rfl, rfl, rfl, Nat.le_refl _, fun _ _ _ => rfl⟩
set_option maxHeartbeats 1000000 in
theorem rest_any {w : World} {B b : Nat} {s : ByteArray} {p ln cl : Nat} {v : Value} {n : Nat} {xs : List Value} (h : Sc w B b s p ln cl v n xs) (hs : s.size ≤ 140737488351232) :
    Calls Tryz.prog 42 #[.pointer (some ⟨b, 0, none⟩)] w fun e w' => e = .returned (.string (s.extract p s.size)) ∧ ∃ k, w' = w.drewN k := by
  obtain ⟨c0, c1, _, _, _⟩ := h.cells
  have hp := h.ps
  have i1 : (p : Int) ≤ (s.size : Int) := by omega
  clear h
  go_enter Tryz.func42, Tryz.ntmps42
  go_wp2
  go_quiet (fail)
  go_wp2
  go_ret
  exact ⟨rfl, _, rfl⟩
set_option maxHeartbeats 1000000 in
theorem fault_any {w : World} {B b : Nat} {s : ByteArray} {p ln cl : Nat} {v : Value} {n : Nat} {xs : List Value} (h : Sc w B b s p ln cl v n xs) (no : Int) :
    Calls Tryz.prog 45 #[.pointer (some ⟨b, 0, none⟩), .int .i64 no] w fun e w' => e = .returned (Go.Proofs.YtekoeobfddfgpaaGreatDoor.E.flt no ln cl) ∧ ∃ k, w' = w.drewN k := by
  obtain ⟨_, _, c2, c3, _⟩ := h.cells
  clear h
  go_enter Tryz.func45, Tryz.ntmps45
  go_wp2
  go_quiet (fail)
  go_wp2
  go_ret
  exact ⟨rfl, _, rfl⟩
theorem count_one (x : ByteArray) (w : World) : Calls Tryz.prog 20 #[.string x, .string ⟨#[10]⟩] w fun e w' => e = .returned (.int .i64 ((bl x).count 10 : Nat)) ∧ w = w' :=
  (Tryz.strings_Count_one x 10 w).mono fun e w' ⟨h1, h2⟩ => ⟨h1, h2.symm⟩
theorem last_ten (x : ByteArray) (w : World) (hx : x.size ≤ 140737488351232) : Calls Tryz.prog 73 #[.string x, .int .u8 10] w fun e w' => e = .returned (.int .i64 (Lib.lastIndexByte x 10)) ∧ w = w' :=
  (Tryz.strings_LastIndexByte x 10 (by omega) w).mono fun e w' ⟨h1, h2⟩ => ⟨h1, h2.symm⟩
theorem runes_of (x : ByteArray) (w : World) (hx : x.size ≤ 140737488351232) : Calls Tryz.prog 38 #[.string x] w fun e w' => e = .returned (.int .i64 ((sfx (bl x)).length : Nat)) ∧ Keeps none' w w' := by
  refine (Tryz.utf8_RuneCountInString x w (by omega)).mono ?_
  rintro e w' ⟨rfl, pos, rfl⟩
  rw [runeCount_sfx]
  exact ⟨rfl, Keeps.alloc _ _ _⟩
theorem Sc.of {w w' : World} {B b : Nat} {s : ByteArray} {p ln cl p' ln' cl' : Nat} {v : Value} {n : Nat} {xs : List Value} (h : Sc w B b s p ln cl v n xs) (hk : Keeps (fun k => k = b) w w')
    (hb : w'.heap[b]? = some (.cells #[.string s, .int .i64 (p' : Nat), .int .i64 (ln' : Nat), .int .i64 (cl' : Nat), v] 51 (0, 0))) (h1 : p' ≤ s.size) (h2 : ln' ≤ p' + 1) (h3 : cl' ≤ p' + 1) : Sc w' B b s p' ln' cl' v n xs :=
  ⟨h.le, hb, owns_obj h.row hk (fun g hg e => h.ne (by rw [hg, e])), h.ne, h1, h2, h3⟩
theorem wrap_in {x : Int} (h1 : -9223372036854775808 ≤ x) (h2 : x ≤ 9223372036854775807) : IntKind.i64.wrap x = x := by
  rw [Go.Proofs.YtekoeobfddfgpaaGreatDoorW.PrintLast.i64_w]
  unfold wrap64; omega
set_option maxHeartbeats 2000000 in
set_option maxRecDepth 100000 in
theorem skip_any {w : World} {B b : Nat} {s : ByteArray} {p ln cl : Nat} {v : Value} {m : Nat} {xs : List Value} (h : Sc w B b s p ln cl v m xs) (hs : s.size ≤ 140737488351232) (n : Nat) (hn : p + n ≤ s.size) :
    Calls Tryz.prog 41 #[.pointer (some ⟨b, 0, none⟩), .int .i64 (n : Nat)] w fun e w' => e = .returned (.tuple #[]) ∧
      Sc w' B b s (p + n) (skipP (ln, cl) (((bl s).drop p).take n)).1 (skipP (ln, cl) (((bl s).drop p).take n)).2 v m xs ∧ Keeps (fun k => k = b) w w' := by
  obtain ⟨c0, c1, c2, c3, _⟩ := h.cells
  have f1 := frozen_cells h.blk 1
  have f2 := frozen_cells h.blk 2
  have f3 := frozen_cells h.blk 3
  obtain ⟨x, hx⟩ : ∃ x, s.extract p (p + n) = x := ⟨_, rfl⟩
  have hbx : bl x = ((bl s).drop p).take n := by
    rw [← hx]
    have : bl (s.extract p (p + n)) = ((bl s).drop p).take (p + n - p) := by simp [bl, ByteArray.data_extract, Array.toList_extract, List.extract]
    rw [this, Nat.add_sub_cancel_left]
  have hxs : x.size = n := by rw [← hx]; simp; omega
  rw [← hbx]
  obtain ⟨A, hA⟩ : ∃ A, skipP (ln, cl) (bl x) = A := ⟨_, rfl⟩
  rw [hA]
  have HA := Lib.hid hA
  have i1 : (p : Int) ≤ (p : Int) + (n : Int) := by omega
  have i2 : (p : Int) + (n : Int) ≤ (s.size : Int) := by omega
  have cL := fun W => last_ten x W (by omega)
  have cC := fun W => count_one x W
  have cR := fun (y : ByteArray) (hy : y.size ≤ x.size) W => runes_of y W (by omega)
  have Hx := Lib.hid hx
  have Hs := Lib.hid h
  clear h hx hbx hA
  go_enter Tryz.func41, Tryz.ntmps41
  go_wp2
  go_quiet (fail)
  rw [Hx.out]
  go_wp2_with fail
  obtain ⟨w1, hw1⟩ : ∃ w1, (w.drewN nq).setCell ⟨b, 1, none⟩ (.int .i64 ((p : Int) + (n : Int))) = w1 := ⟨_, rfl⟩
  have hk1 : Keeps (fun k => k = b) w w1 := by rw [← hw1]; exact (Keeps.drewN _ _ _).trans (Keeps.setCell (Z := fun k => k = b) _ _ _ rfl) (fun _ _ e => e)
  have hb1 : w1.heap[b]? = some (.cells #[.string s, .int .i64 ((p + n : Nat) : Int), .int .i64 (ln : Nat), .int .i64 (cl : Nat), v] 51 (0, 0)) := by
    rw [← hw1, Int.natCast_add]
    exact cell_modify (w := w.drewN nq) Hs.out.blk 1 _
  rw [hw1]
  clear hw1 c0 c1 c2 c3 f1 f2 f3
  have hlen := sfx_len (bl x)
  rw [bl_len, hxs] at hlen
  refine (cL _).mono ?_
  rintro e w' ⟨rfl, rfl⟩
  clear cL
  rcases lastByte_or x with ⟨h0, h1⟩ | ⟨i, hi, h1, h0, h2⟩
  · rw [h1]
    have HA2 : Hid (A = (ln, cl + (sfx (bl x)).length)) := Lib.hid (by rw [← HA.out]; unfold skipP; rw [if_pos h0])
    have d3 : w1.cell? ⟨b, 3, none⟩ = some (.int .i64 (cl : Nat)) := cell_of_row _ _ _ _ _ _ hb1
    have e3 := frozen_cells hb1 3
    have cR1 := fun W => cR x (Nat.le_refl _) W
    obtain ⟨q, hq⟩ : ∃ q, (sfx (bl x)).length = q := ⟨_, rfl⟩
    rw [hq] at cR1 HA2 hlen
    clear cR cC hq h0 h1
    go_wp2_with fail
    go_region_with ((refine (cR1 _).mono ?_; rintro e w' ⟨rfl, hk⟩; have d3' := hk.cell d3 (fun h => h); have e3' := (frozen_keeps hk (World.block_lt_of_cell? w1 _ d3) (fun h => h)).trans e3))
    all_goals
      go_end0
      have hwr : IntKind.i64.wrap ((cl : Int) + (q : Int)) = ((cl + q : Nat) : Int) := by rw [wrap_in (by omega) (by have := Hs.out.cp; omega)]; omega
      rw [hwr, HA2.out]
      have hk2 : Keeps (fun k => k = b) w1 w' := (Keeps.drew _ w1).trans (hk.mono (Z' := fun k => k = b) (fun _ _ h => h.elim)) (fun _ _ e => e)
      have hk3 : Keeps (fun k => k = b) w (w'.setCell ⟨b, 3, none⟩ (.int .i64 ((cl + q : Nat) : Int))) := (hk1.trans hk2 (fun _ _ e => e)).trans (Keeps.setCell (Z := fun k => k = b) _ _ _ rfl) (fun _ _ e => e)
      refine ⟨rfl, Hs.out.of hk3 (cell_modify (hk.obj hb1 (fun h => h)) 3 _) hn ?_ ?_, hk3⟩
      · have := Hs.out.lp; omega
      · have := Hs.out.cp; omega
  · rw [h1]
    have hcnt : (bl x).count 10 ≤ n := by have := List.count_le_length (a := (10 : UInt8)) (l := bl x); rw [bl_len, hxs] at this; exact this
    obtain ⟨u, hu⟩ : ∃ u, (bl x).count 10 = u := ⟨_, rfl⟩
    have hy : bl (x.extract (i + 1) x.size) = lastLine (bl x) := by rw [bl_extract, h2]
    have hys : (x.extract (i + 1) x.size).size ≤ x.size := by simp
    obtain ⟨y, hyd⟩ : ∃ y, x.extract (i + 1) x.size = y := ⟨_, rfl⟩
    rw [hyd] at hy hys
    obtain ⟨q, hq⟩ : ∃ q, (sfx (lastLine (bl x))).length = q := ⟨_, rfl⟩
    have HA2 : Hid (A = (ln + u, 1 + q)) := Lib.hid (by rw [← HA.out]; unfold skipP; rw [if_neg h0, hu, hq])
    have hq2 : q ≤ n := by
      have := sfx_len (lastLine (bl x))
      rw [← hy, bl_len] at this
      rw [hy, hq] at this
      omega
    have cR1 := fun W => cR y hys W
    rw [hy, hq] at cR1
    rw [hu] at cC hcnt
    rw [hxs] at hyd
    have Hyd := Lib.hid hyd
    have d2 : w1.cell? ⟨b, 2, none⟩ = some (.int .i64 (ln : Nat)) := cell_of_row _ _ _ _ _ _ hb1
    have e2 := frozen_cells hb1 2
    have ie : (0 : Int) ≤ (i : Int) := by omega
    have ie2 : (i : Int) + 1 ≤ (x.size : Int) := by omega
    clear cR hq hy hys hyd h2 h0 h1 hu
    go_wp2_with fail
    go_region_with ((refine (cC _).mono ?_; rintro e w' ⟨rfl, rfl⟩))
    all_goals
      go_wp2_with fail
      have hwr : IntKind.i64.wrap ((ln : Int) + (u : Int)) = ((ln + u : Nat) : Int) := by rw [wrap_in (by omega) (by have := Hs.out.lp; omega)]; omega
      rw [hwr]
      clear hwr
      have hk2 : Keeps (fun k => k = b) w (w1.setCell ⟨b, 2, none⟩ (.int .i64 ((ln + u : Nat) : Int))).drew := (hk1.trans (Keeps.setCell (Z := fun k => k = b) _ _ _ rfl) (fun _ _ e => e)).trans (Keeps.drew _ _) (fun _ _ e => e)
      have hb2 := cell_modify hb1 2 (.int .i64 ((ln + u : Nat) : Int))
      change (w1.setCell ⟨b, 2, none⟩ (.int .i64 ((ln + u : Nat) : Int))).drew.heap[b]? = _ at hb2
      generalize (w1.setCell ⟨b, 2, none⟩ (.int .i64 ((ln + u : Nat) : Int))).drew = w2 at hk2 hb2 ⊢
      have e3 := frozen_cells hb2 3
      have d3 : w2.cell? ⟨b, 3, none⟩ = some (.int .i64 (cl : Nat)) := cell_of_row _ _ _ _ _ _ hb2
      clear hk1 hb1 d2 e2 cC
      go_region
      all_goals
        rw [Hyd.out]
        have hk3 : Keeps (fun k => k = b) w (w2.setCell ⟨b, 3, none⟩ (.int .i64 1)).drew := (hk2.trans (Keeps.setCell (Z := fun k => k = b) _ _ _ rfl) (fun _ _ e => e)).trans (Keeps.drew _ _) (fun _ _ e => e)
        have hb3 := cell_modify hb2 3 (.int .i64 1)
        change (w2.setCell ⟨b, 3, none⟩ (.int .i64 1)).drew.heap[b]? = _ at hb3
        generalize (w2.setCell ⟨b, 3, none⟩ (.int .i64 1)).drew = w3 at hk3 hb3 ⊢
        clear hk2 hb2 d3 e3
        have e3 := frozen_cells hb3 3
        have d3 : w3.cell? ⟨b, 3, none⟩ = some (.int .i64 1) := cell_of_row _ _ _ _ _ _ hb3
        go_wp2_with fail
        go_region_with ((refine (cR1 _).mono ?_; rintro e w' ⟨rfl, hk⟩; have d3' := hk.cell d3 (fun h => h); have e3' := (frozen_keeps hk (World.block_lt_of_cell? w3 _ d3) (fun h => h)).trans e3))
        all_goals
          go_end0
          have hwr : IntKind.i64.wrap (1 + (q : Int)) = ((1 + q : Nat) : Int) := by rw [wrap_in (by omega) (by omega)]; omega
          rw [hwr, HA2.out]
          have hk4 : Keeps (fun k => k = b) w3 w' := (Keeps.drew _ w3).trans (hk.mono (Z' := fun k => k = b) (fun _ _ h => h.elim)) (fun _ _ e => e)
          have hk5 : Keeps (fun k => k = b) w (w'.setCell ⟨b, 3, none⟩ (.int .i64 ((1 + q : Nat) : Int))) := (hk3.trans hk4 (fun _ _ e => e)).trans (Keeps.setCell (Z := fun k => k = b) _ _ _ rfl) (fun _ _ e => e)
          refine ⟨rfl, Hs.out.of hk5 (cell_modify (hk.obj hb3 (fun h => h)) 3 _) hn ?_ ?_, hk5⟩
          · have := Hs.out.lp; omega
          · omega
end Go.Proofs.YtekoeobfddfgpaaGreatDoor.C
