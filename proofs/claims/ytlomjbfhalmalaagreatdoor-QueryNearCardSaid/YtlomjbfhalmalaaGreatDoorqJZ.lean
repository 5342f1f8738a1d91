/-
  Of this seat's texts what the claim wants (printed by a program): JZ.
-/
import Derived.Test.YtlomjbfhalmalaaGreatDoorqGN
import Derived.Test.YtlomjbfhalmalaaGreatDoorqJW
import Derived.Test.YtlomjbfhalmalaaGreatDoorqJY
set_option linter.unusedVariables false
set_option linter.unusedSimpArgs false
namespace Go.Proofs.YtlomjbfhalmalaaGreatDoor.C
open Go Go.RowKit Go.Shelf Go.Proofs.YtlomjbfhalmalaaGreatDoor.M Go.Proofs.YtlomjbfhalmalaaGreatDoor.Z Go.Proofs.YtlomjbfhalmalaaGreatDoor.H Go.Proofs.YtlomjbfhalmalaaGreatDoor.PAll Go.Proofs.YtlomjbfhalmalaaGreatDoorW.PrintWords Go.Proofs.YtlomjbfhalmalaaGreatDoorW.PrintLast Go.Proofs.YtlomjbfhalmalaaGreatDoorW.PrintMore
attribute [local go_sem] max2_int min2_int max_two min_two
theorem of_row (s : ByteArray) (X : List Int) (hX : pts (bl s) = X) (w : World) (hs : s.size ≤ 1000000) :
    Calls Tryz.prog 24 #[.string s] w fun e w' => ∃ A c, e = .returned (.slice A X.length c) ∧ X.length ≤ c ∧ RdG w' A .i32 X ∧ Below w.heap.size w w' := by
  subst hX
  have l1 := sfx_len (bl s)
  rw [bl_len] at l1
  exact (of_any s w (by omega) (by omega)).mono fun e w' ⟨v, he, hr, hb⟩ =>
    let ⟨A, c, hv, hl, hg⟩ := hr.readsG
    ⟨A, c, by rw [he, hv], hl, hg, hb⟩
set_option maxHeartbeats 8000000 in
set_option maxRecDepth 100000 in
theorem near_any (w : World) (hT' : hT w) (hE : HE w) (a b m : ByteArray) (ha : a.size ≤ 140737488351232) (hb : b.size ≤ 140737488351232) (hm : m.size ≤ 140737488351232) :
    Calls Tryz.prog 8 #[.string a, .string b, .string m] w fun e w' => e = .returned (.bool true) ∧ Below w.heap.size w w' := by
  have hTE : ∀ W, Keeps none' w W → Calls Tryz.prog 17 #[] W fun e w' => e = .returned (.bool true) ∧ Below W.heap.size W w' := fun W k => works_any W (hT_keeps hT' k (fun h => h) (fun h => h)) (k.cell hE (fun h => h))
  clear hT' hE
  have cW := hTE w (Keeps.refl _ _)
  have s1 : IntKind.i64.wrap ((a.size : Int) + (b.size : Int)) = (a.size : Int) + (b.size : Int) := wrap_in (by omega) (by omega)
  have s2 : IntKind.i64.wrap ((a.size : Int) + (b.size : Int) + (m.size : Int)) = (a.size : Int) + (b.size : Int) + (m.size : Int) := wrap_in (by omega) (by omega)
  by_cases hbig : (1500 : Int) < (a.size : Int) + (b.size : Int) + (m.size : Int)
  · have hd : decide ((1500 : Int) < (a.size : Int) + (b.size : Int) + (m.size : Int)) = true := decide_eq_true hbig
    go_enter Tryz.func8, Tryz.ntmps8
    go_wp2_with fail
    refine cW.mono ?_
    rintro e w1 ⟨rfl, hb1⟩
    have c2 := hTE w1 (Keeps.of_below0 hb1)
    clear cW
    go_wp2_with fail
    refine c2.mono ?_
    rintro e w2 ⟨rfl, hb2⟩
    have fin : Below w.heap.size w w2 := hb1.trans (hb2.mono hb1.size)
    clear c2 hTE
    go_wp2_with fail
    go_ret
    exact ⟨rfl, fin⟩
  · have hd : decide ((1500 : Int) < (a.size : Int) + (b.size : Int) + (m.size : Int)) = false := decide_eq_false hbig
    clear hTE
    have la := pts_len (bl a)
    have lb := pts_len (bl b)
    have lz := pts_len (bl (b ++ m))
    rw [bl_len] at la lb lz
    rw [ByteArray.size_append] at lz
    obtain ⟨X, hX⟩ : ∃ X, pts (bl a) = X := ⟨_, rfl⟩
    obtain ⟨Y, hY⟩ : ∃ Y, pts (bl b) = Y := ⟨_, rfl⟩
    obtain ⟨Z, hZ⟩ : ∃ Z, pts (bl (b ++ m)) = Z := ⟨_, rfl⟩
    rw [hX] at la
    rw [hY] at lb
    rw [hZ] at lz
    obtain ⟨n, hn⟩ : ∃ n, nr X Y = n := ⟨_, rfl⟩
    obtain ⟨o, ho⟩ : ∃ o, nr X Z = o := ⟨_, rfl⟩
    have f1 := nr_le X Y
    have f2 := nr_ge X Y
    have f3 := nr_zero X Y
    have f4 := nr_le X Z
    have f5 := nr_sym X Y
    have f6 := nr_more X Y Z
    rw [hn] at f1 f2 f3 f5 f6
    rw [ho] at f4 f6
    have hbm : (b ++ m).size ≤ 1000000 := by rw [ByteArray.size_append]; omega
    have cX := fun W => of_row a X hX W (by omega)
    have cY := fun W => of_row b Y hY W (by omega)
    have cZ := fun W => of_row (b ++ m) Z hZ W hbm
    have cE1 := fun W => edits_yes a b 1099511627776 X Y hX hY n hn (by omega) W (by omega) (by omega)
    have cE2 := fun W => edits_yes b a 1099511627776 Y X hY hX n f5 (by omega) W (by omega) (by omega)
    have cE3 := fun W => edits_no a b ((n : Int) - 1) X Y hX hY n hn (by omega) W (by omega) (by omega)
    have cE4 := fun W => edits_yes a b (n : Int) X Y hX hY n hn (by omega) W (by omega) (by omega)
    have cE5 := fun W => edits_yes a (b ++ m) 1099511627776 X Z hX hZ o ho (by omega) W (by omega) hbm
    have w1' : IntKind.i64.wrap ((n : Int) - 1) = (n : Int) - 1 := wrap_in (by omega) (by omega)
    have w2' : IntKind.i64.wrap ((X.length : Int) - (Y.length : Int)) = (X.length : Int) - (Y.length : Int) := wrap_in (by omega) (by omega)
    have w3' : IntKind.i64.wrap ((Y.length : Int) - (X.length : Int)) = (Y.length : Int) - (X.length : Int) := wrap_in (by omega) (by omega)
    have w4' : IntKind.i64.wrap ((Y.length : Int) + 1) = (Y.length : Int) + 1 := wrap_in (by omega) (by omega)
    have w5' : IntKind.i64.wrap ((n : Int) + 1) = (n : Int) + 1 := wrap_in (by omega) (by omega)
    have t1 : ((n : Int) == 0) = decide (X = Y) := by
      by_cases h : X = Y
      · have : n = 0 := f3.2 h
        subst this
        simp [h]
      · have : n ≠ 0 := fun h' => h (f3.1 h')
        simp [h, this]
    have t2 : decide ((n : Int) < (X.length : Int) - (Y.length : Int)) = false := decide_eq_false (by omega)
    have t3 : decide ((n : Int) < (Y.length : Int) - (X.length : Int)) = false := decide_eq_false (by omega)
    have t4 : ¬ (n : Int) > max (X.length : Int) (Y.length : Int) := by omega
    have Hf6 := Lib.hid f6
    have Hla := Lib.hid la
    have Hlb := Lib.hid lb
    have Hlz := Lib.hid lz
    have HlX : X.length ≤ 1000000 := by omega
    have HlY : Y.length ≤ 1000000 := by omega
    have HlZ : Z.length ≤ 1000000 := by omega
    have Hf4 := Lib.hid f4
    clear f1 f2 f3 f4 f5 f6 la lb lz hX hY hZ hn ho hbm
    go_enter Tryz.func8, Tryz.ntmps8
    go_wp2_with fail
    refine cW.mono ?_
    rintro e w1 ⟨rfl, hb1⟩
    clear cW
    go_wp2_with fail
    refine (cX _).mono ?_
    rintro e w2 ⟨A1, c1, rfl, hc1, hr1, hb2⟩
    have hb12 := hb1.trans (hb2.mono hb1.size)
    clear hb1 hb2 cX
    go_wp2_with fail
    refine (cY _).mono ?_
    rintro e w3 ⟨A2, c2, rfl, hc2, hr2, hb3⟩
    have hr1 := hr1.keeps0 (Keeps.of_below0 hb3)
    have hb13 := hb12.trans (hb3.mono hb12.size)
    clear hb12 hb3 cY
    go_wp2_with fail
    refine (cE1 _).mono ?_
    rintro e w4 ⟨rfl, hb4⟩
    have hr1 := hr1.keeps0 (Keeps.of_below0 hb4)
    have hr2 := hr2.keeps0 (Keeps.of_below0 hb4)
    have hb14 := hb13.trans (hb4.mono hb13.size)
    clear hb13 hb4 cE1
    go_wp2_with fail
    refine (cE2 _).mono ?_
    rintro e w5 ⟨rfl, hb5⟩
    have hr1 := hr1.keeps0 (Keeps.of_below0 hb5)
    have hr2 := hr2.keeps0 (Keeps.of_below0 hb5)
    have hb15 := hb14.trans (hb5.mono hb14.size)
    clear hb14 hb5 cE2
    go_wp2_with fail
    refine (same_any A1 A2 c1 c2 _ _ X Y _ hr1 hr2 rfl rfl hc1 hc2 HlX HlY).mono ?_
    rintro e w6 ⟨rfl, hb6⟩
    have hr2 := hr2.keeps0 (Keeps.of_below0 hb6)
    have hb16 := hb15.trans (hb6.mono hb15.size)
    clear hb15 hb6
    go_wp2_with fail
    all_goals
      refine (cE3 _).mono ?_
      rintro e w7 ⟨rfl, hb7⟩
      have hr2 := hr2.keeps0 (Keeps.of_below0 hb7)
      have hb17 := hb16.trans (hb7.mono hb16.size)
      clear hb16 hb7 cE3
      go_wp2_with fail
      refine (cE4 _).mono ?_
      rintro e w8 ⟨rfl, hb8⟩
      have hr2 := hr2.keeps0 (Keeps.of_below0 hb8)
      have hb18 := hb17.trans (hb8.mono hb17.size)
      clear hb17 hb8 cE4
      go_wp2_with fail
      refine (cZ _).mono ?_
      rintro e w9 ⟨A3, c3, rfl, hc3, hr3, hb9⟩
      have hr2 := hr2.keeps0 (Keeps.of_below0 hb9)
      have hb19 := hb18.trans (hb9.mono hb18.size)
      clear hb18 hb9 cZ
      by_cases hz : Z.length = Y.length + 1
      · have g1 : ((Z.length : Int) == (Y.length : Int) + 1) = true := beqT (by omega)
        have g2 : (Y.length : Int) ≤ (Z.length : Int) := by omega
        have g3 : (Y.length : Int) ≤ (c3 : Int) := by omega
        have g4 : Y.length ≤ c3 := by omega
        have cS := same_any A3 A2 c3 c2 Y.length Y.length (Z.take Y.length) Y w9 (hr3.take _) hr2 (by rw [List.length_take]; omega) rfl g4 hc2 (by rw [List.length_take]; omega) HlY
        have Hz := Lib.hid hz
        by_cases ht : Z.take Y.length = Y
        · rw [decide_eq_true ht] at cS
          have hno := Hf6.out hz ht
          have r1 : decide ((o : Int) ≤ (n : Int) + 1) = true := decide_eq_true (by omega)
          have r2 : decide ((o : Int) ≥ (n : Int) - 1) = true := decide_eq_true (by omega)
          have Hno := Lib.hid hno
          clear hno ht hz
          go_wp2_with fail
          all_goals first | (go_ret; exact ⟨rfl, hb19⟩) | skip
          refine cS.mono ?_
          rintro e w10 ⟨rfl, hb10⟩
          have fin1 := hb19.trans (hb10.mono hb19.size)
          clear cS hb10
          go_wp2_with fail
          refine (cE5 _).mono ?_
          rintro e w11 ⟨rfl, hb11⟩
          have fin := fin1.trans (hb11.mono fin1.size)
          clear cE5 hb11
          go_wp2_with fail
          all_goals go_ret
          all_goals first | exact ⟨rfl, fin⟩ | (have := Hno.out; refine ⟨?_, fin⟩; simp; omega) | (have := Hno.out; exfalso; omega)
        · rw [decide_eq_false ht] at cS
          clear ht hz
          go_wp2_with fail
          all_goals first | (go_ret; exact ⟨rfl, hb19⟩) | skip
          refine cS.mono ?_
          rintro e w10 ⟨rfl, hb10⟩
          have fin := hb19.trans (hb10.mono hb19.size)
          go_wp2_with fail
          go_ret
          exact ⟨rfl, fin⟩
      · have g1 : ((Z.length : Int) == (Y.length : Int) + 1) = false := beqF (by omega)
        have Hz := Lib.hid hz
        clear hz
        go_wp2_with fail
        all_goals first | (go_ret; exact ⟨rfl, hb19⟩) | (exfalso; have := Hz.out; omega)
theorem law_QueryNear (w : World) (hT : Lib.Utf8Tabs 1 2 w) (hE : HE w) (a : ByteArray) (ha : a.size ≤ 140737488351232) (b : ByteArray) (hb : b.size ≤ 140737488351232) (m : ByteArray) (hm : m.size ≤ 140737488351232) :
    Calls Tryz.prog 8 #[.string a, .string b, .string m] w fun e w' => e = .returned (.bool true) ∧ Below w.heap.size w w' :=
  near_any w hT hE a b m ha hb hm
end Go.Proofs.YtlomjbfhalmalaaGreatDoor.C
