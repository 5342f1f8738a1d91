/-
  Of this seat's texts what the claim wants (printed by a program): J4.
-/
import Derived.Test.YtlomjbfhalmalaaGreatDoortJ1
import Derived.Recover
set_option linter.unusedVariables false
set_option linter.unusedSimpArgs false
namespace Go.Proofs.YtlomjbfhalmalaaGreatDoor.C
open Go Go.RowKit Go.Shelf Go.Proofs.YtlomjbfhalmalaaGreatDoor.M Go.Proofs.YtlomjbfhalmalaaGreatDoor.Z
theorem wrap_in {x : Int} (h0 : -9223372036854775808 ≤ x) (h1 : x ≤ 9223372036854775807) : IntKind.i64.wrap x = x := by
  rw [Go.Proofs.YtlomjbfhalmalaaGreatDoorW.PrintLast.i64_w]
  unfold wrap64; omega
theorem Keeps.drewN' (Z : Nat → Prop) (W : World) (n : Nat) : Keeps Z W (W.drewN n) := ⟨rfl, rfl, rfl, Nat.le_refl _, fun _ _ _ => rfl⟩
def Ps (w : World) (b : Nat) (s : ByteArray) (p d : Nat) : Prop := w.heap[b]? = some (.cells #[.string s, .int .i64 (p : Nat), .int .i64 (d : Nat)] 85 (0, 0))
theorem Ps.c0 {w : World} {b : Nat} {s : ByteArray} {p d : Nat} (h : Ps w b s p d) : w.cell? ⟨b, 0, none⟩ = some (.string s) := cell_of_row _ _ _ _ _ _ h
theorem Ps.c1 {w : World} {b : Nat} {s : ByteArray} {p d : Nat} (h : Ps w b s p d) : w.cell? ⟨b, 1, none⟩ = some (.int .i64 (p : Nat)) := cell_of_row _ _ _ _ _ _ h
theorem Ps.c2 {w : World} {b : Nat} {s : ByteArray} {p d : Nat} (h : Ps w b s p d) : w.cell? ⟨b, 2, none⟩ = some (.int .i64 (d : Nat)) := cell_of_row _ _ _ _ _ _ h
theorem Ps.fr {w : World} {b : Nat} {s : ByteArray} {p d : Nat} (h : Ps w b s p d) (j : Nat) : w.frozen? ⟨b, j, none⟩ = false := frozen_cells h j
theorem Ps.lt {w : World} {b : Nat} {s : ByteArray} {p d : Nat} (h : Ps w b s p d) : b < w.heap.size := lt_of_obj h
theorem Ps.keeps {w w' : World} {b : Nat} {s : ByteArray} {p d : Nat} {Z : Nat → Prop} (h : Ps w b s p d) (hk : Keeps Z w w') (hz : ¬ Z b) : Ps w' b s p d := hk.obj h hz
theorem Ps.below {w w' : World} {b : Nat} {s : ByteArray} {p d : Nat} (h : Ps w b s p d) (hk : Below w.heap.size w w') : Ps w' b s p d := h.keeps (Keeps.of_below0 hk) (fun h => h)
theorem Ps.set1 {w : World} {b : Nat} {s : ByteArray} {p d : Nat} (h : Ps w b s p d) (q : Nat) : Ps (w.setCell ⟨b, 1, none⟩ (.int .i64 (q : Nat))) b s q d := cell_modify h 1 _
theorem Ps.set2 {w : World} {b : Nat} {s : ByteArray} {p d : Nat} (h : Ps w b s p d) (q : Nat) : Ps (w.setCell ⟨b, 2, none⟩ (.int .i64 (q : Nat))) b s p q := cell_modify h 2 _
theorem rest_any {w : World} {b : Nat} {s : ByteArray} {p d : Nat} (h : Ps w b s p d) (hp : p ≤ s.size) (hs : s.size ≤ 140737488351232) :
    Calls Tryz.prog 75 #[.pointer (some ⟨b, 0, none⟩)] w fun e w' => e = .returned (.string (s.extract p s.size)) ∧ Keeps none' w w' := by
  have c0 := h.c0
  have c1 := h.c1
  have i1 : (p : Int) ≤ (s.size : Int) := by omega
  go_enter Tryz.func75, Tryz.ntmps75
  go_wp2
  go_quiet (fail)
  go_wp2
  go_ret
  exact ⟨rfl, Keeps.drewN' _ _ _⟩
set_option maxHeartbeats 1000000 in
theorem enter_any {w : World} {b : Nat} {s : ByteArray} {p d : Nat} (h : Ps w b s p d) (hp : p < s.size) (hs : s.size ≤ 140737488351232) (hd : d < 64) :
    Calls Tryz.prog 127 #[.pointer (some ⟨b, 0, none⟩)] w fun e w' => e = .returned (.tuple #[]) ∧ Ps w' b s (p + 1) (d + 1) ∧ Keeps (fun k => k = b) w w' := by
  have c0 := h.c0
  have c1 := h.c1
  have c2 := h.c2
  have f1 := h.fr 1
  have f2 := h.fr 2
  have hne : ((d : Int) == 64) = false := beq_eq_false_iff_ne.2 (by omega)
  have e1 : IntKind.i64.wrap ((p : Int) + 1) = ((p + 1 : Nat) : Int) := by rw [wrap_in (by omega) (by omega)]; omega
  have e2 : IntKind.i64.wrap ((d : Int) + 1) = ((d + 1 : Nat) : Int) := by rw [wrap_in (by omega) (by omega)]; omega
  go_enter Tryz.func127, Tryz.ntmps127
  go_wp2
  go_end0
  refine ⟨rfl, ?_, ?_⟩
  · have := (h.set2 (d + 1)).set1 (p + 1)
    rw [Int.natCast_add, Int.natCast_add] at this
    exact this
  · exact (Keeps.setCell (Z := fun k => k = b) _ _ _ rfl).trans (Keeps.setCell (Z := fun k => k = b) _ _ _ rfl) (fun _ _ e => e)
set_option maxHeartbeats 1000000 in
theorem leave_any {w : World} {b : Nat} {s : ByteArray} {p d : Nat} (h : Ps w b s p (d + 1)) (hd : d < 64) (u : FrameMode) :
    CallsD Tryz.prog 128 #[.pointer (some ⟨b, 0, none⟩)] u w fun e u' w' => u' = u ∧ e = .returned (.tuple #[]) ∧ Ps w' b s p d ∧ Keeps (fun k => k = b) w w' := by
  have c2 := h.c2
  have f2 := h.fr 2
  have e2 : IntKind.i64.wrap (((d + 1 : Nat) : Int) - 1) = (d : Int) := by rw [wrap_in (by omega) (by omega)]; omega
  go_enter_d Tryz.func128, Tryz.ntmps128
  go_wp2
  go_end0
  exact ⟨rfl, h.set2 d, Keeps.setCell (Z := fun k => k = b) _ _ _ rfl⟩
set_option maxHeartbeats 1000000 in
theorem wrong_any (no p : Int) (w : World) :
    Calls Tryz.prog 53 #[.int .i64 no, .int .i64 p] w fun e w' => e = .panicked [{ v := .iface 74 (.agg #[.int .i64 no, .int .i64 0, .int .i64 p]), recovered := false }] ∧ w' = w := by
  go_enter Tryz.func53, Tryz.ntmps53
  go_wp2
  exact ⟨rfl, rfl, rfl⟩
set_option maxHeartbeats 1000000 in
theorem blanks_any {w : World} {b : Nat} {s : ByteArray} {p d : Nat} (h : Ps w b s p d) (hp : p ≤ s.size) (hs : s.size ≤ 140737488351232) {q : Nat} (hq : s.size - (((bl s).drop p).dropWhile blk).length = q) :
    Calls Tryz.prog 94 #[.pointer (some ⟨b, 0, none⟩)] w fun e w' => e = .returned (.tuple #[]) ∧ Ps w' b s q d ∧ Keeps (fun k => k = b) w w' := by
  have c0 := h.c0
  have c1 := h.c1
  have f1 := h.fr 1
  have cR := fun (W : World) (h : Ps W b s p d) => rest_any h hp hs
  have cT := fun (W : World) => trim_any (s.extract p s.size) W
  have hl : (((bl s).drop p).dropWhile blk).length ≤ s.size := by
    have h1 := (List.dropWhile_suffix (l := (bl s).drop p) blk).length_le
    rw [List.length_drop, bl_len] at h1; omega
  have e1 : IntKind.i64.wrap ((s.size : Int) - ((ba (((bl s).drop p).dropWhile blk)).size : Int)) = (q : Int) := by
    rw [ba_size, wrap_in (by omega) (by omega)]; omega
  rw [bl_extract] at cT
  go_enter Tryz.func94, Tryz.ntmps94
  go_wp2
  have kd : ∀ W, Keeps none' w W → (W.cell? ⟨b, 0, none⟩ = some (.string s) ∧ W.cell? ⟨b, 1, none⟩ = some (.int .i64 (p : Nat)) ∧ W.frozen? ⟨b, 1, none⟩ = false ∧ Keeps none' w W) := fun W hk => ⟨(h.keeps hk (fun h => h)).c0, (h.keeps hk (fun h => h)).c1, (h.keeps hk (fun h => h)).fr 1, hk⟩
  have k0 : Keeps none' w w.drew := Keeps.drew _ _
  go_region_law (first | (go_simp; go_at_call 75; refine (cR _ (h.keeps (by first | assumption | exact k0) (fun h => h))).mono ?_; rintro e w1 ⟨rfl, hk1⟩; have k1 : Keeps none' w w1 := (by first | assumption | exact k0 : Keeps none' w _).trans hk1 (fun _ _ h => h); obtain ⟨d0, d1, g1, _⟩ := kd _ k1) | (go_simp; go_at_call 85; refine (cT _).mono ?_; rintro e w2 ⟨rfl, hb⟩; have k2 : Keeps none' w w2 := (by first | assumption | exact k0 : Keeps none' w _).trans (Keeps.of_below0 hb) (fun _ _ h => h); obtain ⟨d0', d1', g1', _⟩ := kd _ k2))
  all_goals
    go_end0
    have hk2 := h.keeps k2 (fun h => h)
    exact ⟨rfl, hk2.set1 q, (k2.mono (fun _ _ h => h.elim)).trans (Keeps.setCell (Z := fun k => k = b) _ _ _ rfl) (fun _ _ e => e)⟩
end Go.Proofs.YtlomjbfhalmalaaGreatDoor.C
set_option linter.unusedVariables false
set_option linter.unusedSimpArgs false
namespace Go.Proofs.YtlomjbfhalmalaaGreatDoor.C
open Go Go.RowKit Go.Shelf Go.Proofs.YtlomjbfhalmalaaGreatDoor.M Go.Proofs.YtlomjbfhalmalaaGreatDoor.Z
def stopB (c : UInt8) : Bool := decide (0 ≤ Lib.indexByte [32, 9, 13, 10, 124, 40, 41, 34, 42, 63, 126] c)
def dots (l : List UInt8) : Bool := Lib.hasPrefix l [46, 46]
theorem keepP {w : World} {b : Nat} {s : ByteArray} {p d : Nat} (h : Ps w b s p d) : ∀ W, Keeps none' w W → (W.cell? ⟨b, 0, none⟩ = some (.string s) ∧ W.cell? ⟨b, 1, none⟩ = some (.int .i64 (p : Nat)) ∧ Keeps none' w W) :=
  fun W hk => ⟨(h.keeps hk (fun h => h)).c0, (h.keeps hk (fun h => h)).c1, hk⟩
set_option maxHeartbeats 4000000 in
set_option maxRecDepth 100000 in
theorem begins_any {w : World} {b : Nat} {s : ByteArray} {p d : Nat} (h : Ps w b s p d) (hp : p < s.size) (hs : s.size ≤ 140737488351232) {c : UInt8} (hc : s[p]'hp = c) (ha : c.toNat < 128) :
    Calls Tryz.prog 130 #[.pointer (some ⟨b, 0, none⟩)] w fun e w' => e = .returned (.bool (!stopB c && !dots ((bl s).drop p))) ∧ Keeps none' w w' := by
  have c0 := h.c0
  have c1 := h.c1
  have hlt : decide ((p : Int) < (s.size : Int)) = true := decide_eq_true (by omega)
  have i0 : (p : Int) < (s.size : Int) := by omega
  have cR := fun (W : World) (h : Ps W b s p d) => rest_any h (by omega) hs
  have cP := fun (W : World) => Tryz.strings_HasPrefix (s.extract p s.size) ⟨#[46, 46]⟩ W
  have cC := fun (W : World) => Tryz.strings_ContainsRune_ascii ⟨#[32, 9, 13, 10, 124, 40, 41, 34, 42, 63, 126]⟩ (c.toNat : Nat) W (by omega) (by omega)
  have e1 : (decide (0 ≤ Lib.indexByte (⟨#[32, 9, 13, 10, 124, 40, 41, 34, 42, 63, 126]⟩ : ByteArray).data.toList ((c.toNat : Int)).toNat.toUInt8)) = stopB c := by
    rw [Int.toNat_natCast]
    have : c.toNat.toUInt8 = c := by simp
    rw [this]; rfl
  have e2 : Lib.hasPrefix (s.extract p s.size).data.toList (⟨#[46, 46]⟩ : ByteArray).data.toList = dots ((bl s).drop p) := by
    have := bl_extract s p
    unfold bl at this
    rw [this]; rfl
  obtain ⟨y1, hy1⟩ : ∃ y, stopB c = y := ⟨_, rfl⟩
  obtain ⟨y2, hy2⟩ : ∃ y, dots ((bl s).drop p) = y := ⟨_, rfl⟩
  rw [hy1, hy2]
  rw [hy1] at e1
  rw [hy2] at e2
  simp only [e1] at cC
  simp only [e2] at cP
  have kd := keepP h
  have k0 : Keeps none' w w.drew := Keeps.drew _ _
  have hcv : ((s[p]'hp).toNat : Int) = (c.toNat : Nat) := by rw [hc]
  have hw32 : IntKind.i32.wrap ((c.toNat : Nat) : Int) = ((c.toNat : Nat) : Int) := by rw [Go.Proofs.YtlomjbfhalmalaaGreatDoorW.PrintLast.i32_w]; exact w32 (by omega) (by omega)
  have Hhp := Lib.hid hp
  clear e1 e2 hy1 hy2
  go_enter Tryz.func130, Tryz.ntmps130
  go_wp2
  cases y1
  case true =>
    go_quiet ((go_at_call 86; (try rw [hcv]); exact Calls.quiet_of_same (cC _)))
    all_goals go_wp2
    all_goals go_ret
    all_goals exact ⟨by simp, Keeps.drewN' _ _ _⟩
  first
    | (go_region_held3 (fun W => W.cell? ⟨b, 0, none⟩ = some (.string s) ∧ W.cell? ⟨b, 1, none⟩ = some (.int .i64 (p : Nat)) ∧ Keeps none' w W) (first | exact kd _ k0 | exact kd _ (by assumption))
    (first | (go_at_call 75; refine (cR _ (h.keeps (by first | assumption | exact k0) (fun h => h))).mono ?_; rintro e w1 ⟨rfl, hk1⟩; have k1 : Keeps none' w w1 := (by first | assumption | exact k0 : Keeps none' w _).trans hk1 (fun _ _ h => h)) | (go_at_call 54; refine (cP _).mono ?_; rintro e w2 ⟨rfl, rfl⟩) | (go_at_call 86; (try rw [hcv]); refine (cC _).mono ?_; rintro e w2 ⟨rfl, rfl⟩)))
    | fail
  all_goals go_wp2
  all_goals go_ret
  · exact ⟨by simp, by assumption⟩
end Go.Proofs.YtlomjbfhalmalaaGreatDoor.C
set_option linter.unusedVariables false
set_option linter.unusedSimpArgs false
namespace Go.Proofs.YtlomjbfhalmalaaGreatDoor.C
open Go Go.RowKit Go.Shelf Go.Proofs.YtlomjbfhalmalaaGreatDoor.M Go.Proofs.YtlomjbfhalmalaaGreatDoor.Z
abbrev hT (w : World) : Prop := Lib.Utf8Tabs 1 2 w
set_option maxHeartbeats 4000000 in
set_option maxRecDepth 100000 in
theorem piece_any {w : World} {b : Nat} {s : ByteArray} {p d : Nat} (h : Ps w b s p d) (hT' : hT w) (hp : p < s.size) (hs : s.size ≤ 140737488351232) {c : UInt8} (hc : s[p]'hp = c) (ha : c.toNat < 128) (hn : c ≠ 92) :
    Calls Tryz.prog 129 #[.pointer (some ⟨b, 0, none⟩)] w fun e w' => e = .returned (.string (ba [c])) ∧ Ps w' b s (p + 1) d ∧ Keeps (fun k => k = b) w w' := by
  have c0 := h.c0
  have c1 := h.c1
  have i0 : (p : Int) < (s.size : Int) := by omega
  have i1 : (p : Int) ≤ (s.size : Int) := by omega
  have hcv : ((s[p]'hp).toNat : Int) = (c.toNat : Nat) := by rw [hc]
  have hq : (((c.toNat : Nat) : Int) == 92) = false := beq_eq_false_iff_ne.2 (fun e => hn (by
    have : c.toNat = 92 := by omega
    exact UInt8.toNat_inj.1 this))
  have hne := bl_nonempty hp
  have hu := b0_unit hne (by rw [← byte_at hp, hc]; exact ha)
  have cD := fun (W : World) (hT : hT W) => decode_rest s p W hT hp
  rw [hu.1, hu.2] at cD
  have e1 : IntKind.i64.wrap ((p : Int) + 1) = (p : Int) + 1 := by rw [wrap_in (by omega) (by omega)]
  have i2 : (p : Int) + 1 ≤ (s.size : Int) := by omega
  have i3 : (p : Int) ≤ (p : Int) + 1 := by omega
  obtain ⟨z, hz⟩ : ∃ z, ((b0 ((bl s).drop p) : Nat) : Int) = z := ⟨_, rfl⟩
  rw [hz] at cD
  have hx : s.extract p (p + 1) = ba [c] := by
    rw [extract_ba (by omega)]
    congr 1
    rw [List.drop_take, Nat.add_sub_cancel_left, List.drop_eq_getElem_cons (by rw [bl_len]; exact hp), List.take_succ_cons, List.take_zero]
    have : (bl s)[p]'(by rw [bl_len]; exact hp) = s[p]'hp := by simp [bl]; rfl
    rw [this, hc]
  have H := Lib.hid h
  have Hx := Lib.hid hx
  have HT := Lib.hid hT'
  clear hx hz hu hne hT'
  go_enter Tryz.func129, Tryz.ntmps129
  go_wp2
  go_quiet (fail)
  go_wp2_with fail
  have hk0 : Keeps none' w (w.drewN nq) := Keeps.drewN' _ _ _
  refine (cD _ ?_).mono ?_
  · exact HT.out
  rintro e w1 ⟨rfl, hb⟩
  have hk1 : Keeps none' w w1 := hk0.trans (Keeps.of_below0 hb) (fun _ _ h => h)
  have h1 : Ps w1 b s p d := H.out.keeps hk1 (fun h => h)
  have f1 := h1.fr 1
  have g1 := h1.c1
  have g0 := h1.c0
  have h2 := h1.set1 (p + 1)
  rw [Int.natCast_add] at h2
  obtain ⟨w2, hw2⟩ : ∃ w2, w1.setCell ⟨b, 1, none⟩ (.int .i64 ((p : Nat) + 1)) = w2 := ⟨_, rfl⟩
  have HW := Lib.hid hw2
  have k2 : Keeps (fun k => k = b) w w2 := by rw [← hw2]; exact (hk1.mono (fun _ _ h => h.elim)).trans (Keeps.setCell (Z := fun k => k = b) _ _ _ rfl) (fun _ _ e => e)
  have h2' : Ps w2 b s (p + 1) d := by rw [← hw2]; exact h2
  clear h2 hw2
  go_wp2
  rw [HW.out]
  have g2 := h2'.c0
  have g3 := h2'.c1
  rw [Int.natCast_add] at g3
  go_quiet (fail)
  go_wp2
  rw [Hx.out]
  go_ret
  exact ⟨rfl, h2'.keeps (Keeps.drewN' none' _ _) (fun h => h), k2.trans (Keeps.drewN' _ _ _) (fun _ _ h => h)⟩
end Go.Proofs.YtlomjbfhalmalaaGreatDoor.C
