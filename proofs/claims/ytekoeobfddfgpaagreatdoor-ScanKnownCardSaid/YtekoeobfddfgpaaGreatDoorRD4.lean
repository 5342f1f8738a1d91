/-
  Of this seat's texts what the claim wants (printed by a program): D4.
-/
import Derived.Test.YtekoeobfddfgpaaGreatDoorRD3
set_option linter.unusedVariables false
set_option linter.unusedSimpArgs false
namespace Go.Proofs.YtekoeobfddfgpaaGreatDoor.C
open Go Go.RowKit Go.Shelf Go.Proofs.YtekoeobfddfgpaaGreatDoor.M Go.Proofs.YtekoeobfddfgpaaGreatDoor.Z
def escA (r : List UInt8) : List UInt8 × Nat × Nat := match esc r with
  | some x => (x.1, x.2, 0)
  | none => ([], 0, 9)
theorem get_bl {s : ByteArray} {n : Nat} {l : List UInt8} {c : UInt8} (h : bl s = l) (hc : l[n]? = some c) : ∃ h : n < s.size, s[n]'h = c := by
  subst h
  obtain ⟨h1, h2⟩ := List.getElem?_eq_some_iff.1 hc
  have h3 : n < s.size := by rw [← bl_len]; exact h1
  exact ⟨h3, by rw [← bl_get h3]; exact h2⟩
theorem ba_of {y : ByteArray} {l : List UInt8} (h : l = y.data.toList) : ba l = y := by subst h; exact ba_bl y
theorem enc_ba (c : Nat) : ba (enc c) = Utf8.encode (c : Int) := ba_of (enc.eq_1 c)
theorem enc_str (c : Nat) : Value.string (Utf8.encode (c : Int)) = .string (ba (enc c)) := congrArg Value.string (enc_ba c).symm
theorem extract_ba {s : ByteArray} {i j : Nat} (hj : j ≤ s.size) : s.extract i j = ba (((bl s).take j).drop i) := by
  rw [← ba_bl (s.extract i j)]
  congr 1
  have : bl (s.extract i j) = ((bl s).drop i).take (j - i) := by simp [bl, ByteArray.data_extract, Array.toList_extract, List.extract]
  rw [this, List.drop_take]
theorem conv_one (W : World) (c : Nat) : (convert 61 9 (.slice (some ⟨W.heap.size, 0, none⟩) 1 1)).run Tryz.prog (W.alloc (.cells #[.int .u8 ((c : Int) % 256)] 5)) = .ok (.string (ba [UInt8.ofNat c])) (W.alloc (.cells #[.int .u8 ((c : Int) % 256)] 5)) := by
  refine run_convert_bytes_back (P := Tryz.prog) _ _ _ 5 ⟨W.heap.size, 0, none⟩ 1 [UInt8.ofNat c] Tryz.underlying61 Tryz.underlying5 Tryz.underlying9 (fun j hj => ?_)
  have h0 : j = 0 := by simp at hj; omega
  subst h0
  have := (cell_new_l W (.int .u8 ((c : Int) % 256)) 5).1
  refine Eq.trans this ?_
  simp
set_option maxHeartbeats 2000000 in
set_option maxRecDepth 100000 in
theorem escape_x (s : ByteArray) (r : List UInt8) (hs : bl s = 92 :: 120 :: r) (w : World) (hsz : s.size ≤ 140737488351232) :
    Calls Tryz.prog 98 #[.string s] w fun e w' => e = .returned (.tuple #[.string (ba (escA (120 :: r)).1), .int .i64 ((escA (120 :: r)).2.1 : Nat), .int .i64 ((escA (120 :: r)).2.2 : Nat)]) ∧ Below w.heap.size w w' := by
  have hl := bl_len s
  have hs1 : 2 ≤ s.size := by rw [← hl, hs]; simp
  obtain ⟨h1, h1e⟩ := get_bl (n := 1) (c := 120) hs rfl
  have t1 : (((s[1]'h1).toNat : Int) == 120) = true := by rw [h1e]; rfl
  have t0 : ((s.size : Int) == 1) = false := by simp; omega
  have i1 : (1 : Int) < (s.size : Int) := by omega
  have i2 : (2 : Int) ≤ (s.size : Int) := by omega
  have cD := digits_any (s.extract 2 s.size) 2 (by decide) w (by simp; omega)
  rw [bl_extract, hs] at cD
  have e2 : (92 :: 120 :: r : List UInt8).drop 2 = r := rfl
  rw [e2] at cD
  obtain ⟨n, hn⟩ : ∃ n, (digs 2 r 0).2 = n := ⟨_, rfl⟩
  obtain ⟨v, hv⟩ : ∃ v, (digs 2 r 0).1 = v := ⟨_, rfl⟩
  rw [hn, hv] at cD
  have hA : escA (120 :: r) = if n < 2 ∨ v < 128 then ([], 0, 9) else ([UInt8.ofNat v], 4, 0) := by
    unfold escA
    simp only [esc, if_true, hn, hv]
    by_cases hb : n < 2 ∨ v < 128
    · rw [if_pos hb, if_pos hb]
    · rw [if_neg hb, if_neg hb]
  rw [hA]
  have n2 : n ≤ 2 := by rw [← hn]; exact (digs_n 2 r 0).1
  clear hA hs hl e2 hn hv h1e
  by_cases hb : n < 2 ∨ v < 128
  · rw [if_pos hb]
    by_cases hb1 : n < 2
    · have a1 : (n : Int) < 2 := by omega
      go_enter Tryz.func98, Tryz.ntmps98
      go_wp2_with fail
      refine cD.mono ?_
      rintro e w' ⟨rfl, rfl⟩
      go_wp2_with fail
      go_ret3
      exact ⟨rfl, Below.refl _ _⟩
    · have a1 : (2 : Int) ≤ (n : Int) := by omega
      have a2 : (v : Int) < 128 := by omega
      go_enter Tryz.func98, Tryz.ntmps98
      go_wp2_with fail
      refine cD.mono ?_
      rintro e w' ⟨rfl, rfl⟩
      go_wp2_with fail
      go_ret3
      exact ⟨rfl, Below.refl _ _⟩
  · rw [if_neg hb]
    have a1 : (2 : Int) ≤ (n : Int) := by omega
    have a2 : (128 : Int) ≤ (v : Int) := by omega
    have hc := conv_one w v
    go_enter Tryz.func98, Tryz.ntmps98
    go_wp2_with fail
    refine cD.mono ?_
    rintro e w' ⟨rfl, rfl⟩
    go_wp2_with fail
    go_ret3
    exact ⟨rfl, (Below.refl _ _).alloc (Nat.le_refl _) _⟩
set_option maxHeartbeats 2000000 in
set_option maxRecDepth 100000 in
theorem escape_u (s : ByteArray) (r : List UInt8) (hs : bl s = 92 :: 117 :: r) (w : World) (hsz : s.size ≤ 140737488351232) :
    Calls Tryz.prog 98 #[.string s] w fun e w' => e = .returned (.tuple #[.string (ba (escA (117 :: r)).1), .int .i64 ((escA (117 :: r)).2.1 : Nat), .int .i64 ((escA (117 :: r)).2.2 : Nat)]) ∧ Below w.heap.size w w' := by
  have hl := bl_len s
  have hs1 : 2 ≤ s.size := by rw [← hl, hs]; simp
  obtain ⟨h1, h1e⟩ := get_bl (n := 1) (c := 117) hs rfl
  have t1 : (((s[1]'h1).toNat : Int) == 120) = false := by rw [h1e]; rfl
  have t2 : (((s[1]'h1).toNat : Int) == 117) = true := by rw [h1e]; rfl
  have t0 : ((s.size : Int) == 1) = false := by simp; omega
  have i1 : (1 : Int) < (s.size : Int) := by omega
  cases r with
  | nil =>
    have hA : escA [117] = ([], 0, 9) := by simp [escA, esc]
    have h2 : s.size = 2 := by rw [← hl, hs]; rfl
    have h2i : (s.size : Int) < 3 := by omega
    rw [hA]
    clear hA hs hl h1e h2
    go_enter Tryz.func98, Tryz.ntmps98
    go_wp2_with fail
    go_ret3
    exact ⟨rfl, Below.refl _ _⟩
  | cons d q =>
    obtain ⟨h2, h2e⟩ := get_bl (n := 2) (c := d) hs rfl
    have i2 : (3 : Int) ≤ (s.size : Int) := by omega
    have i2' : (2 : Int) < (s.size : Int) := by omega
    by_cases hd : d = 123
    · subst hd
      have t3 : (((s[2]'h2).toNat : Int) != 123) = false := by rw [h2e]; rfl
      have hql : q.length + 3 = s.size := by rw [← hl, hs]; rfl
      have cD := digits_any (s.extract 3 s.size) 6 (by decide) w (by simp; omega)
      rw [bl_extract, hs] at cD
      have e2 : (92 :: 117 :: 123 :: q : List UInt8).drop 3 = q := rfl
      rw [e2] at cD
      obtain ⟨n, hn⟩ : ∃ n, (digs 6 q 0).2 = n := ⟨_, rfl⟩
      obtain ⟨v, hv⟩ : ∃ v, (digs 6 q 0).1 = v := ⟨_, rfl⟩
      rw [hn, hv] at cD
      have hA : escA (117 :: 123 :: q) = if n = 0 ∨ q[n]? ≠ some 125 ∨ Lib.validRune (v : Nat) = false then ([], 0, 9) else (enc v, n + 4, 0) := by
        unfold escA
        simp only [esc, if_true, hn, hv]
        by_cases hb : n = 0 ∨ q[n]? ≠ some 125 ∨ Lib.validRune (v : Nat) = false
        · rw [if_pos hb]; simp [hb]
        · rw [if_neg hb]; simp [hb]
      have n6 : n ≤ 6 := by rw [← hn]; exact (digs_n 6 q 0).1
      have cV := fun W => Tryz.utf8_ValidRune (v : Int) W
      rw [hA]
      by_cases hn0 : n = 0
      · rw [if_pos (.inl hn0)]
        have a1 : ((n : Int) == 0) = true := by simp; omega
        clear hA hs hl h1e h2e e2 hn hv hn0 cV
        go_enter Tryz.func98, Tryz.ntmps98
        go_wp2_with fail
        refine cD.mono ?_
        rintro e w' ⟨rfl, rfl⟩
        go_wp2_with fail
        go_ret3
        exact ⟨rfl, Below.refl _ _⟩
      · have a1 : ((n : Int) == 0) = false := by simp; omega
        by_cases hq : q[n]? = some 125
        · obtain ⟨h3, h3e⟩ := get_bl (s := s) (n := n + 3) (c := 125) hs (by simpa using hq)
          have a2 : (3 : Int) + (n : Int) < (s.size : Int) := by omega
          have t4 : (((s[n + 3]'h3).toNat : Int) != 125) = false := by rw [h3e]; rfl
          have h3' : 3 + n < s.size := by omega
          have t4' : (((s[3 + n]'h3').toNat : Int) != 125) = false := by simp only [Nat.add_comm 3 n]; exact t4
          obtain ⟨b, hvr⟩ : ∃ b, Lib.validRune (v : Int) = b := ⟨_, rfl⟩
          cases b with
          | false =>
            rw [if_pos (Or.inr (Or.inr hvr))]
            rw [hvr] at cV
            clear hA hs hl h1e h2e e2 hn hv hn0 hq h3e hvr
            go_enter Tryz.func98, Tryz.ntmps98
            go_wp2_with fail
            refine cD.mono ?_
            rintro e w' ⟨rfl, rfl⟩
            go_wp2_with fail
            refine (cV _).mono ?_
            rintro e w' ⟨rfl, rfl⟩
            go_wp2_with fail
            go_ret3
            exact ⟨rfl, Below.refl _ _⟩
          | true =>
            rw [if_neg (show ¬ (n = 0 ∨ q[n]? ≠ some 125 ∨ Lib.validRune (v : Nat) = false) from by
              rintro (h | h | h)
              · exact hn0 h
              · exact h hq
              · rw [hvr] at h; cases h)]
            rw [hvr] at cV
            have Hes := Lib.hid (enc_str v)
            clear hA hs hl h1e h2e e2 hn hv hn0 hq h3e hvr
            go_enter Tryz.func98, Tryz.ntmps98
            go_wp2_with fail
            refine cD.mono ?_
            rintro e w' ⟨rfl, rfl⟩
            go_wp2_with fail
            refine (cV _).mono ?_
            rintro e w' ⟨rfl, rfl⟩
            go_wp2_with fail
            go_ret3
            rw [← Hes.out]
            exact ⟨rfl, Below.refl _ _⟩
        · rw [if_pos (.inr (.inl hq))]
          by_cases hlt : n + 3 < s.size
          · have a2 : (3 : Int) + (n : Int) < (s.size : Int) := by omega
            have h3' : 3 + n < s.size := by omega
            have t4 : (((s[3 + n]'h3').toNat : Int) != 125) = true := by
              simp only [bne_iff_ne, ne_eq]
              intro e
              apply hq
              have h5 : (bl s)[n + 3]? = some 125 := by
                rw [List.getElem?_eq_getElem (by rw [hl]; exact hlt), bl_get hlt]
                congr 1
                refine UInt8.toNat_inj.1 ?_
                simp only [Nat.add_comm 3 n] at e
                show (s[n + 3]'hlt).toNat = 125
                omega
              rw [hs] at h5
              simpa using h5
            clear hA hs hl h1e h2e e2 hn hv hn0 hq cV
            go_enter Tryz.func98, Tryz.ntmps98
            go_wp2_with fail
            refine cD.mono ?_
            rintro e w' ⟨rfl, rfl⟩
            go_wp2_with fail
            go_ret3
            exact ⟨rfl, Below.refl _ _⟩
          · have a2 : (s.size : Int) ≤ (3 : Int) + (n : Int) := by omega
            clear hA hs hl h1e h2e e2 hn hv hn0 hq cV
            go_enter Tryz.func98, Tryz.ntmps98
            go_wp2_with fail
            refine cD.mono ?_
            rintro e w' ⟨rfl, rfl⟩
            go_wp2_with fail
            go_ret3
            exact ⟨rfl, Below.refl _ _⟩
    · have hA : escA (117 :: d :: q) = ([], 0, 9) := by simp [escA, esc, hd]
      have t3 : (((s[2]'h2).toNat : Int) != 123) = true := by
        rw [h2e]
        simp only [bne_iff_ne, ne_eq]
        intro e
        exact hd (UInt8.toNat_inj.1 (by show d.toNat = 123; omega))
      rw [hA]
      clear hA hs hl h1e h2e hd
      go_enter Tryz.func98, Tryz.ntmps98
      go_wp2_with fail
      go_ret3
      exact ⟨rfl, Below.refl _ _⟩
set_option maxHeartbeats 2000000 in
set_option maxRecDepth 100000 in
theorem escape_any (s : ByteArray) (r : List UInt8) (hs : bl s = 92 :: r) (w : World) (hT : Lib.Utf8Tabs 2 3 w) (hsz : s.size ≤ 140737488351232) :
    Calls Tryz.prog 98 #[.string s] w fun e w' => e = .returned (.tuple #[.string (ba (escA r).1), .int .i64 ((escA r).2.1 : Nat), .int .i64 ((escA r).2.2 : Nat)]) ∧ Below w.heap.size w w' := by
  have hl := bl_len s
  cases r with
  | nil =>
    have hA : escA [] = ([], 0, 9) := by simp [escA, esc]
    have t0 : ((s.size : Int) == 1) = true := by rw [← hl, hs]; rfl
    rw [hA]
    clear hA hs hl
    go_enter Tryz.func98, Tryz.ntmps98
    go_wp2_with fail
    go_ret3
    exact ⟨rfl, Below.refl _ _⟩
  | cons c r =>
    by_cases h120 : c = 120
    · subst h120; exact escape_x s r hs w hsz
    · by_cases h117 : c = 117
      · subst h117; exact escape_u s r hs w hsz
      · have hA : escA (c :: r) = ((c :: r).take (dw (c :: r)), 1 + dw (c :: r), 0) := by simp [escA, esc, h120, h117]
        have hs1 : 2 ≤ s.size := by rw [← hl, hs]; simp
        obtain ⟨h1, h1e⟩ := get_bl (n := 1) (c := c) hs rfl
        have hne : ∀ k : UInt8, c ≠ k → (((s[1]'h1).toNat : Int) == (k.toNat : Int)) = false := fun k hk => by
          rw [h1e]
          simp only [beq_eq_false_iff_ne, ne_eq]
          intro e
          exact hk (UInt8.toNat_inj.1 (by omega))
        have t1 := hne 120 h120
        have t2 := hne 117 h117
        have e1 : ((120 : UInt8).toNat : Int) = 120 := rfl
        have e2 : ((117 : UInt8).toNat : Int) = 117 := rfl
        rw [e1] at t1
        rw [e2] at t2
        have t0 : ((s.size : Int) == 1) = false := by simp; omega
        have i1 : (1 : Int) < (s.size : Int) := by omega
        have cD := decode_rest s 1 w hT (by omega)
        rw [hs] at cD
        have e3 : (92 :: c :: r : List UInt8).drop 1 = c :: r := rfl
        rw [e3] at cD
        have hwl := dw_len (l := c :: r) (by simp)
        have hwp := dw_pos (l := c :: r) (by simp)
        have hsl : (c :: r).length + 1 = s.size := by rw [← hl, hs]; rfl
        have hx : s.extract 1 (1 + dw (c :: r)) = ba ((c :: r).take (dw (c :: r))) := by
          rw [extract_ba (by omega), hs, Nat.add_comm 1, List.take_succ_cons]; rfl
        rw [hA]
        generalize hg : dw (c :: r) = d at *
        have hdI : (1 : Int) + (d : Int) ≤ (s.size : Int) := by omega
        have hx' : Value.string (s.extract 1 (1 + d)) = .string (ba ((c :: r).take d)) := by rw [hx]
        have Hx := Lib.hid hx'
        clear hA hs hl h1e hne e1 e2 e3 hx hx' hg h120 h117
        go_enter Tryz.func98, Tryz.ntmps98
        go_wp2_with fail
        refine cD.mono ?_
        rintro e w' ⟨rfl, hb⟩
        go_wp2_with fail
        go_ret3
        refine ⟨?_, hb⟩
        rw [← Hx.out]
        congr 1
end Go.Proofs.YtekoeobfddfgpaaGreatDoor.C
