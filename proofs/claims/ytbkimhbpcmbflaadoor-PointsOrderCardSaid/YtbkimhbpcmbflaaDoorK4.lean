/-
  The statement PointsRow, walked: characters that Go makes a text, and back.
-/
import Derived.Test.YtbkimhbpcmbflaaDoorK3
import Derived.Laws.Cover4
set_option linter.unusedVariables false
set_option linter.unusedSimpArgs false
namespace Go.Proofs.YtbkimhbpcmbflaaDoor.C
open Go Go.RowKit Go.Proofs.YtbkimhbpcmbflaaDoor.M Go.Proofs.YtbkimhbpcmbflaaDoor.E Go.Proofs.YtbkimhbpcmbflaaDoor.PAll Go.Proofs.YtbkimhbpcmbflaaDoorW.PrintWords

theorem runes_len (l : List UInt8) : (runes l).length = (sfx l).length := by simp [runes]
/-- Go's own conversion of a text into a list of runes -/
theorem runes_conv (s : ByteArray) (W : World) (h46 : (sfx (bl s)).length ≤ 70368744177664) :
    ∃ cap W', (convert 9 22 (.string s)).run Tryd.prog W = .ok (.slice (some ⟨W.heap.size, 0, none⟩) (runes (bl s)).length cap) W' ∧ Rd W' W'.heap.size .i32 (some ⟨W.heap.size, 0, none⟩) (runes (bl s)) ∧ (runes (bl s)).length ≤ cap ∧ Below W.heap.size W W' := by
  have hsz : (Conv.runesFrom s s.size 0 #[]).size = (sfx (bl s)).length := conv_runes_size s
  have hli : (Conv.runesFrom s s.size 0 #[]).toList = (runes (bl s)).map (Value.int .i32) := conv_runes s
  have hcv := run_runes_of_string (P := Tryd.prog) W 9 22 21 s Tryd.underlying9 Tryd.underlying22 Tryd.underlying21 (by omega)
  have hge := grownCap_ge W (Conv.runesFrom s s.size 0 #[]).size 0 21
  have hrl := runes_len (bl s)
  have hse : (Conv.runesFrom s s.size 0 #[]).size = (runes (bl s)).length := by omega
  rw [hse] at hcv hge
  refine ⟨_, _, hcv, ?_, by omega, ?_⟩
  · refine .inr ⟨⟨W.heap.size, 0, none⟩, rfl, by simp, fun j u hj => ?_⟩
    have ea : (⟨W.heap.size, 0, none⟩ : Addr).add j = ⟨W.heap.size, j, none⟩ := by unfold Addr.add; split <;> simp_all
    have hb := heap_alloc_new W.drew (.cells (Conv.runesFrom s s.size 0 #[] ++ Array.replicate (grownCap W (runes (bl s)).length 0 21 - (runes (bl s)).length) (.int .i32 0)) 21)
    have hd : W.drew.heap.size = W.heap.size := by simp
    rw [hd] at hb
    rw [ea, cell_of_row _ _ _ _ _ _ hb]
    have hjl := (List.getElem?_eq_some_iff.1 hj).1
    rw [Array.getElem?_append_left (by omega), ← Array.getElem?_toList, hli, List.getElem?_map, hj]
    rfl
  · exact ((Below.refl _ W).drew).alloc (by simp) _

theorem textP_enc (cs : List Nat) (h : ∀ c ∈ cs, okc c) : textP (cs.map fun (c : Nat) => (c : Int)) = cs.flatMap enc := by
  induction cs with
  | nil => rfl
  | cons c cs ih =>
    have hc : c < 55296 ∨ (57344 ≤ c ∧ c ≤ 1114111) := h c (by simp)
    have hv : Lib.validRune (c : Int) = true := by unfold Lib.validRune; simp; omega
    have ih' := ih (fun x hx => h x (by simp [hx]))
    unfold textP at ih' ⊢
    have e1 : pb (c : Int) = enc c := by unfold pb; rw [if_pos hv, enc]
    rw [List.map_cons, List.flatMap_cons, List.flatMap_cons, ih', e1]
theorem valid_nat {xs : List Int} (h : ∀ x ∈ xs, Lib.validRune x = true) : ∃ cs : List Nat, (cs.map fun (c : Nat) => (c : Int)) = xs ∧ ∀ c ∈ cs, okc c := by
  refine ⟨xs.map Int.toNat, ?_, ?_⟩
  · rw [List.map_map]
    conv => rhs; rw [← List.map_id xs]
    refine List.map_congr_left fun x hx => ?_
    have := h x hx
    unfold Lib.validRune at this
    simp at this ⊢
    omega
  · intro c hc
    obtain ⟨x, hx, e⟩ := List.mem_map.1 hc
    have := h x hx
    unfold Lib.validRune at this
    show c < 55296 ∨ (57344 ≤ c ∧ c ≤ 1114111)
    simp at this
    omega
/-- the points and the characters of a text that is made of characters -/
theorem back_row {xs : List Int} (h : ∀ x ∈ xs, Lib.validRune x = true) : pts (textP xs) = xs ∧ runes (textP xs) = xs ∧ (∀ x ∈ xs, isPt x = true) := by
  obtain ⟨cs, e, hc⟩ := valid_nat h
  have h2 := pts_flat cs hc
  have h3 := textP_enc cs hc
  refine ⟨?_, ?_, fun x hx => by unfold isPt; rw [h x hx]; rfl⟩
  · rw [← e, h3]; exact h2.1
  · rw [← e, h3]; exact h2.2
theorem bl_mk (l : List UInt8) : bl ⟨l.toArray⟩ = l := rfl
theorem runesBytes_eq : ∀ (xs : List Int) (r : ByteArray), (∀ x ∈ xs, Lib.validRune x = true) → bl (xs.foldl (fun r n => r ++ Utf8.encode n) r) = bl r ++ textP xs
  | [], r, _ => by simp [textP]
  | x :: xs, r, h => by
    rw [List.foldl_cons, runesBytes_eq xs _ (fun y hy => h y (by simp [hy]))]
    have hx := h x (by simp)
    have e : bl (r ++ Utf8.encode x) = bl r ++ bl (Utf8.encode x) := by unfold bl; simp
    rw [e, List.append_assoc]
    congr 1
    unfold textP
    have e1 : pb x = bl (Utf8.encode x) := by unfold pb; rw [if_pos hx, bl]
    rw [List.flatMap_cons, e1]
theorem ba_ext {a b : ByteArray} (h : bl a = bl b) : a = b := by
  have h' : a.data = b.data := Array.toList_inj.1 h
  cases a; cases b
  exact congrArg ByteArray.mk h'
/-- Go's own conversion of a list of characters into a text -/
theorem text_conv (W : World) (B : Nat) (A : Option Addr) (cap : Nat) (xs : List Int) (hR : Rd W B .i32 A xs) (h : ∀ x ∈ xs, Lib.validRune x = true) :
    (convert 22 9 (.slice A xs.length cap)).run Tryd.prog W = .ok (.string ⟨(textP xs).toArray⟩) W := by
  have e0 : runesBytes xs = ⟨(textP xs).toArray⟩ := ba_ext (by
    show bl (runesBytes xs) = textP xs
    unfold runesBytes
    rw [runesBytes_eq xs _ h]
    rfl)
  have key : ∀ x : Addr, (∀ j u, xs[j]? = some u → W.cell? (x.add j) = some (.int .i32 u)) → (convert 22 9 (.slice (some x) xs.length cap)).run Tryd.prog W = .ok (.string ⟨(textP xs).toArray⟩) W := fun x hc => by
    have := run_convert_runes (P := Tryd.prog) W 22 9 21 x xs.length cap xs (Nat.le_refl _) Tryd.underlying22 Tryd.underlying21 Tryd.underlying9 (fun j hj => by
      rw [hc j _ (List.getElem?_eq_getElem hj), List.getD_eq_getElem?_getD, List.getElem?_eq_getElem hj]; rfl)
    rw [List.take_of_length_le (Nat.le_refl _), e0] at this
    exact this
  rcases hR with rfl | ⟨x, rfl, hb, hc⟩
  · cases A with
    | none => exact run_convert_runes_nil (P := Tryd.prog) W 22 9 21 0 cap Tryd.underlying22 Tryd.underlying21 Tryd.underlying9
    | some x => exact key x (fun j u hj => by simp at hj)
  · exact key x hc
/-- SameRunes of two rows that hold the same -/
theorem same_any (xs : List Int) (hl : xs.length ≤ 9223372036854775806) (W : World) (A1 A2 : Option Addr) (c1 c2 : Nat) (h1 : Rd W W.heap.size .i32 A1 xs) (h2 : Rd W W.heap.size .i32 A2 xs) (hc1 : xs.length ≤ c1) (hc2 : xs.length ≤ c2) :
    Calls Tryd.prog 26 #[.slice A1 xs.length c1, .slice A2 xs.length c2] W fun e w' => e = .returned (.bool true) ∧ Below W.heap.size W w' := by
  obtain ⟨k, hk⟩ := same_ref xs hl
  exact (glossaryref0_SameRunes.calls k A1 c1 xs A2 c2 xs true W (C_of h1 (by omega)) hc1 (C_of h2 (by omega)) hc2 hk).mono fun e w' ⟨he, hd⟩ => ⟨he, hd.below⟩

set_option maxHeartbeats 4000000 in
set_option maxRecDepth 1000000 in
theorem PointsRow_of (w : World) (hE : HE w) (A : Option Addr) (cap : Nat) (xs : List Int) (hl : xs.length ≤ 35184372087808) (hx : ∀ x ∈ xs, -2147483648 ≤ x ∧ x ≤ 2147483647) (hR : Rd w w.heap.size .i32 A xs) (hcap : xs.length ≤ cap) :
    Calls Tryd.prog 6 #[.slice A xs.length cap] w fun e w' => e = .returned (.bool true) ∧ Below w.heap.size w w' := by
  have cT : Hid (∀ x ∈ xs, Lib.validRune x = true) → ∀ W, Rd W W.heap.size .i32 A xs → Calls Tryd.prog 31 #[.slice A xs.length cap] W fun e w' => e = .returned (.tuple #[.string ⟨(textP xs).toArray⟩, .nilIface]) ∧ Below W.heap.size W w' := fun h W hR' =>
    (text_any W A cap xs hl hx hR').mono fun e w' ⟨h1, hb⟩ => by
      refine ⟨?_, hb⟩
      rcases h1 with ⟨_, h1⟩ | ⟨q, y, hq, hy, _, _⟩
      · exact h1
      · have := (back_row h.out).2.2 y (List.mem_of_getElem? hq); rw [hy] at this; cases this
  have cV : Hid (∀ x ∈ xs, Lib.validRune x = true) → ∀ W, Rd W W.heap.size .i32 A xs → (convert 22 9 (.slice A xs.length cap)).run Tryd.prog W = .ok (.string ⟨(textP xs).toArray⟩) W := fun h W hR' => text_conv W _ A cap xs hR' h.out
  have ht4 := textP_len xs
  have hts : (⟨(textP xs).toArray⟩ : ByteArray).size = (textP xs).length := rfl
  have cO : Hid (∀ x ∈ xs, Lib.validRune x = true) → ∀ W, Calls Tryd.prog 25 #[.string ⟨(textP xs).toArray⟩] W fun e w' => ∃ A' c', e = .returned (.slice A' xs.length c') ∧ xs.length ≤ c' ∧ Rd w' w'.heap.size .i32 A' xs ∧ Below W.heap.size W w' := fun h W => by
    have e1 := (back_row h.out).1
    have e2 : (sfx (textP xs)).length = xs.length := by have := congrArg List.length e1; unfold pts at this; rw [List.length_map] at this; exact this
    have := of_any ⟨(textP xs).toArray⟩ W (by rw [hts]; omega) (by rw [bl_mk, e2]; omega)
    rw [bl_mk, e1] at this
    refine this.mono fun e w' ⟨v, he, hr, hb⟩ => ?_
    obtain ⟨A', c', rfl, hle, hrd⟩ := hr.reads
    exact ⟨A', c', he, hle, hrd, hb⟩
  have cX : Hid (∀ x ∈ xs, Lib.validRune x = true) → ∀ W, ∃ cap' W', (convert 9 22 (.string ⟨(textP xs).toArray⟩)).run Tryd.prog W = .ok (.slice (some ⟨W.heap.size, 0, none⟩) xs.length cap') W' ∧ Rd W' W'.heap.size .i32 (some ⟨W.heap.size, 0, none⟩) xs ∧ xs.length ≤ cap' ∧ Below W.heap.size W W' := fun h W => by
    have e1 := (back_row h.out).2.1
    have e2 : (sfx (textP xs)).length = xs.length := by have := congrArg List.length e1; rw [runes_len] at this; exact this
    have := runes_conv ⟨(textP xs).toArray⟩ W (by rw [bl_mk, e2]; omega)
    rw [bl_mk, e1] at this
    exact this
  have cS := fun (W : World) (A1 A2 : Option Addr) (c1 c2 : Nat) (h1 : Rd W W.heap.size .i32 A1 xs) (h2 : Rd W W.heap.size .i32 A2 xs) => same_any xs (by omega) W A1 A2 c1 c2 h1 h2
  have cW := works_any
  generalize (⟨(textP xs).toArray⟩ : ByteArray) = t at cT cV cO cX
  obtain ⟨n, hn⟩ : ∃ n, xs.length = n := ⟨_, rfl⟩
  rw [hn] at cT cV cO cX cS hcap ⊢
  have Hn := Lib.hid hn
  have HR := Lib.hid hR
  have Hx := Lib.hid hx
  have hn40 : n ≤ 35184372087808 := by omega
  clear hn hl hts ht4 hR hx
  go_enter Tryd.func6, Tryd.ntmps6
  go_wp2
  go_loopw [3] (fun kv wr => ∃ k : Nat, kv = .int .i64 k ∧ k ≤ n ∧ Hid (∀ x ∈ xs.take k, Lib.validRune x = true) ∧ Below w.heap.size w wr)
    (fun kv _ => n - (intOf kv).toNat)
  case atStart =>
    exact ⟨0, rfl, Nat.zero_le _, by simp [Hid], Below.refl _ _⟩
  case round =>
    obtain ⟨k, rfl, hk, hall, hbw⟩ := hrel
    by_cases hlt : k < n
    · rcases HR.out with h0 | ⟨ad, rfl, hb, hc⟩
      · have := Hn.out; rw [h0] at this; simp at this; omega
      · obtain ⟨x, hxk⟩ : ∃ x, xs[k]? = some x := ⟨_, List.getElem?_eq_getElem (show k < xs.length by have := Hn.out; omega)⟩
        have hcell : wr.cell? (ad.add k) = some (.int .i32 x) := (hbw.cell (p := ad.add k) (by rw [add_block]; exact hb)).trans (hc k x hxk)
        obtain ⟨hx1, hx2⟩ := Hx.out x (List.mem_of_getElem? hxk)
        have stp : Hid (Lib.validRune x = true) → Hid (∀ y ∈ xs.take (k + 1), Lib.validRune y = true) := fun h => by
          show ∀ y ∈ xs.take (k + 1), _
          rw [List.take_add_one, hxk]
          intro y hy
          rcases List.mem_append.1 hy with hy | hy
          · exact hall.out y hy
          · rw [show y = x by simpa using hy]; exact h.out
        have hltI : (k : Int) < n := by omega
        clear hc hxk HR cT cV cO cX cS
        rcases (show x < 0 ∨ 1114111 < x ∨ (0 ≤ x ∧ x < 55296) ∨ (55296 ≤ x ∧ x ≤ 57343) ∨ (57343 < x ∧ x ≤ 1114111) by omega) with hx3 | hx3 | ⟨hx3, hx4⟩ | ⟨hx3, hx4⟩ | ⟨hx3, hx4⟩
        · go_wp2_with (first | (go_at_call 28; refine (cW _ (hE.below hbw (Nat.le_refl _))).mono ?_; rintro e w1 ⟨rfl, hb1⟩))
          go_ret
          exact ⟨rfl, hbw.trans (hb1.mono hbw.size)⟩
        · go_wp2_with (first | (go_at_call 28; refine (cW _ (hE.below hbw (Nat.le_refl _))).mono ?_; rintro e w1 ⟨rfl, hb1⟩))
          go_ret
          exact ⟨rfl, hbw.trans (hb1.mono hbw.size)⟩
        · have hv : Lib.validRune x = true := by unfold Lib.validRune; simp; omega
          have Hv := Lib.hid hv
          clear hv
          go_wp2
          go_roundw
          case rel => exact ⟨k + 1, by go_num, by omega, stp Hv, hbw⟩
          case measure => simp [intOf]; omega
        · go_wp2_with (first | (go_at_call 28; refine (cW _ (hE.below hbw (Nat.le_refl _))).mono ?_; rintro e w1 ⟨rfl, hb1⟩))
          go_ret
          exact ⟨rfl, hbw.trans (hb1.mono hbw.size)⟩
        · have hv : Lib.validRune x = true := by unfold Lib.validRune; simp; omega
          have Hv := Lib.hid hv
          clear hv
          go_wp2
          go_roundw
          case rel => exact ⟨k + 1, by go_num, by omega, stp Hv, hbw⟩
          case measure => simp [intOf]; omega
    · obtain rfl : k = n := by omega
      have hfull : Hid (∀ x ∈ xs, Lib.validRune x = true) := by
        have h2 := hall.out
        rw [List.take_of_length_le (by have := Hn.out; omega)] at h2
        exact h2
      have dT := cT hfull
      have dV := cV hfull
      have dO := cO hfull
      have dX := cX hfull
      clear cT cV cO cX hall
      have hR0 := HR.out
      have hRr := (hR0.below hbw (Nat.le_refl _)).more hbw.size
      go_wp2_with (first | (go_at_call 31; refine (dT _ hRr).mono ?_; rintro e w1 ⟨rfl, hb1⟩))
      have hb01 := hbw.trans (hb1.mono hbw.size)
      have hR1 := (hR0.below hb01 (Nat.le_refl _)).more hb01.size
      have dV1 := dV _ hR1
      go_wp2
      rw [dV1]
      go_wp2_with (first | (go_at_call 25; refine (dO _).mono ?_; rintro e w2 ⟨A', c', rfl, hc', hrd, hb2⟩))
      have hb02 := hb01.trans (hb2.mono hb01.size)
      have hR2 := (hR0.below hb02 (Nat.le_refl _)).more hb02.size
      go_wp2_with (first | (go_at_call 26; refine (cS _ _ _ _ _ hrd hR2 hc' hcap).mono ?_; rintro e w3 ⟨rfl, hb3⟩))
      have hb03 := hb02.trans (hb3.mono hb02.size)
      obtain ⟨cap4, w4, dX4, hrd4, hc4, hb4⟩ := dX w3
      have hb04 := hb03.trans (hb4.mono hb03.size)
      have hR4 := (hR0.below hb04 (Nat.le_refl _)).more hb04.size
      go_wp2
      rw [dX4]
      go_wp2_with (first | (go_at_call 26; refine (cS _ _ _ _ _ hrd4 hR4 hc4 hcap).mono ?_; rintro e w5 ⟨rfl, hb5⟩))
      have hb05 := hb04.trans (hb5.mono hb04.size)
      have hE5 : HE w5 := hE.below hb05 (Nat.le_refl _)
      go_wp2_with (first | (go_at_call 28; refine (cW _ hE5).mono ?_; rintro e w6 ⟨rfl, hb6⟩))
      go_ret
      exact ⟨rfl, hb05.trans (hb6.mono hb05.size)⟩

theorem law_PointsRow (w : World) (hE : HE w) (a : Option Addr) (len cap : Nat) (zs : List Int) (h : IsRow .i32 w a len cap zs) (hy : len * 4 ≤ 140737488351232) :
    Calls Tryd.prog 6 #[.slice a len cap] w fun e w' => e = .returned (.bool true) ∧ Below w.heap.size w w' := by
  obtain ⟨hl, hR, hc, hw⟩ := h.rd
  have := PointsRow_of w hE a cap (zs.take len) (by omega) (fun x hx => wf32 (hw x hx)) hR (by omega)
  rw [hl] at this
  exact this
end Go.Proofs.YtbkimhbpcmbflaaDoor.C
