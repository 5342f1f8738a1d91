/-
  Of this seat's texts what the claim wants (printed by a program): E9.
-/
import Derived.Test.YtekoeobfddfgpaaGreatDoorRSS
import Derived.Test.YtekoeobfddfgpaaGreatDoorRD9
import Derived.Deep.QuietTactic
import Derived.BigQuiet
import Derived.StillTailTactics
import Derived.Laws.BitsLemmas
import Derived.Test.YtekoeobfddfgpaaGreatDoorRDX
import Derived.Test.YtekoeobfddfgpaaGreatDoorRAP
import Derived.Deep.AppendLies
set_option linter.unusedVariables false
set_option linter.unusedSimpArgs false
set_option maxRecDepth 100000
namespace Go.Proofs.YtekoeobfddfgpaaGreatDoor.M
open Go Go.Lib
def hexd (n : Nat) : UInt8 := [48, 49, 50, 51, 52, 53, 54, 55, 56, 57, 97, 98, 99, 100, 101, 102].getD n 0
def qU (t : List UInt8) : List UInt8 :=
  if ill t = true then [92, 120, hexd (b0 t / 16), hexd (b0 t % 16)]
  else if dc t < 16 then [92, 117, 123, hexd (b0 t), 125]
  else if dc t ≤ 32 ∨ dc t = 127 then [92, 117, 123, hexd (b0 t / 16), hexd (b0 t % 16), 125]
  else if dc t < 128 ∧ sgn (t.getD 0 0) = true then 92 :: t.take (dw t)
  else t.take (dw t)
def quoteU (q : List (List UInt8)) : List UInt8 := q.flatMap qU
def quoteM (l : List UInt8) : List UInt8 := if l = [] then [39, 39] else quoteU (sfx l)
theorem quoteU_snoc (q : List (List UInt8)) (t : List UInt8) : quoteU (q ++ [t]) = quoteU q ++ qU t := by simp [quoteU]
theorem quoteU_cons (t : List UInt8) (q : List (List UInt8)) : quoteU (t :: q) = qU t ++ quoteU q := rfl
theorem qU_len {t : List UInt8} (h : t ≠ []) : (qU t).length ≤ 6 := by
  have h4 : ill t = false → (t.take (dw t)).length ≤ 4 := fun hi => by
    rw [take_enc h hi]
    exact (enc_len (okc_dc h)).2
  unfold qU
  split
  · simp
  rename_i hi
  have h5 := h4 (by simpa using hi)
  split
  · simp
  split
  · simp
  split
  · rw [List.length_cons]; omega
  · omega
theorem hexd_v : ∀ n, n < 16 → hexv (hexd n) = some n := by decide
theorem digs_two {a b : Nat} (ha : a < 16) (hb : b < 16) (z : List UInt8) : digs 2 (hexd a :: hexd b :: z) 0 = (16 * a + b, 2) := by
  simp [digs, hexd_v a ha, hexd_v b hb]
theorem digs_end {v m : Nat} {z : List UInt8} : digs m (125 :: z) v = (v, 0) := by
  cases m with
  | zero => rfl
  | succ m => simp [digs, show hexv 125 = none by decide]
theorem digs_u1 {a : Nat} (ha : a < 16) (z : List UInt8) : digs 6 (hexd a :: 125 :: z) 0 = (a, 1) := by
  rw [digs, hexd_v a ha]
  simp only [digs_end]
  simp
theorem digs_u2 {a b : Nat} (ha : a < 16) (hb : b < 16) (z : List UInt8) : digs 6 (hexd a :: hexd b :: 125 :: z) 0 = (16 * a + b, 2) := by
  rw [digs, hexd_v a ha]
  simp only
  rw [digs, hexd_v b hb]
  simp only [digs_end]
  simp
theorem ill_take {t : List UInt8} (h : t ≠ []) (hi : ill t = true) : dw t = 1 ∧ 128 ≤ b0 t ∧ t.take (dw t) = [UInt8.ofNat (b0 t)] := by
  have e2 : dc t = 65533 ∧ dw t = 1 := by simpa [ill] using hi
  obtain ⟨_, _, _, _, h5, _, _⟩ := d_facts h
  have h6 : 128 ≤ b0 t := by
    rcases h5 e2.2 with h7 | h7
    · omega
    · exact h7.1
  refine ⟨e2.2, h6, ?_⟩
  rw [e2.2]
  cases t with
  | nil => exact absurd rfl h
  | cons c r => simp [b0]
theorem piece_q {t : List UInt8} (h : t ≠ []) (z : List UInt8) : pieceM (qU t ++ z) = (t.take (dw t), (qU t).length, 0) := by
  have hb : b0 t < 256 := u8_lt _
  unfold qU
  by_cases hi : ill t = true
  · rw [if_pos hi]
    obtain ⟨h1, h2, h3⟩ := ill_take h hi
    rw [h3]
    have hd := digs_two (a := b0 t / 16) (b := b0 t % 16) (by omega) (by omega) z
    rw [show 16 * (b0 t / 16) + b0 t % 16 = b0 t by omega] at hd
    have he : esc (120 :: hexd (b0 t / 16) :: hexd (b0 t % 16) :: z) = some ([UInt8.ofNat (b0 t)], 4) := by
      simp only [esc, hd, if_true]
      rw [if_neg (by omega)]
    show pieceM (92 :: (120 :: hexd (b0 t / 16) :: hexd (b0 t % 16) :: z)) = _
    simp [pieceM, he]
  · rw [if_neg hi]
    have hi' : ill t = false := by simpa using hi
    have ht := take_enc h hi'
    have hok := okc_dc h
    have hcases : dc t < 128 → dw t = 1 ∧ b0 t = dc t ∧ t.take (dw t) = [UInt8.ofNat (dc t)] := by
      intro hlt
      have h8 : enc (dc t) = [UInt8.ofNat (dc t)] := by rw [enc_eq hok, if_pos hlt]
      have hl1 : (t.take (dw t)).length = 1 := by rw [ht, h8]; rfl
      have hdl := dw_len h
      have hp := dw_pos h
      rw [List.length_take] at hl1
      have hw : dw t = 1 := by omega
      refine ⟨hw, ?_, by rw [ht, h8]⟩
      rw [hw, h8] at ht
      clear h8 hl1 hdl hp hw hi hi' hb hok
      generalize dc t = v at ht hlt
      cases t with
      | nil => exact absurd rfl h
      | cons c r =>
        simp at ht
        have : b0 (c :: r) = c.toNat := rfl
        rw [this, ht]
        rw [UInt8.toNat_ofNat']
        omega
    have hesc1 : ∀ v : Nat, v < 128 → Lib.validRune (v : Int) = true ∧ enc v = [UInt8.ofNat v] := by
      intro v hv
      have ho : okc v := .inl (by omega)
      refine ⟨?_, by rw [enc_eq ho, if_pos hv]⟩
      unfold Lib.validRune
      simp
      omega
    by_cases h16 : dc t < 16
    · rw [if_pos h16]
      obtain ⟨g1, g2, g3⟩ := hcases (by omega)
      rw [g3]
      have hd := digs_u1 (a := b0 t) (by omega) z
      obtain ⟨e1, e2⟩ := hesc1 (b0 t) (by omega)
      have he : esc (117 :: 123 :: hexd (b0 t) :: 125 :: z) = some ([UInt8.ofNat (dc t)], 5) := by
        rw [← g2, ← e2]
        simp only [esc, hd]
        rw [if_neg (by decide), if_pos trivial, if_neg (by simp [e1])]
      show pieceM (92 :: (117 :: 123 :: hexd (b0 t) :: 125 :: z)) = _
      simp [pieceM, he]
    · rw [if_neg h16]
      by_cases h32 : dc t ≤ 32 ∨ dc t = 127
      · rw [if_pos h32]
        obtain ⟨g1, g2, g3⟩ := hcases (by omega)
        rw [g3]
        have hd := digs_u2 (a := b0 t / 16) (b := b0 t % 16) (by omega) (by omega) z
        rw [show 16 * (b0 t / 16) + b0 t % 16 = b0 t by omega] at hd
        obtain ⟨e1, e2⟩ := hesc1 (b0 t) (by omega)
        have he : esc (117 :: 123 :: hexd (b0 t / 16) :: hexd (b0 t % 16) :: 125 :: z) = some ([UInt8.ofNat (dc t)], 6) := by
          rw [← g2, ← e2]
          simp only [esc, hd]
          rw [if_neg (by decide), if_pos trivial, if_neg (by simp [e1])]
        show pieceM (92 :: (117 :: 123 :: hexd (b0 t / 16) :: hexd (b0 t % 16) :: 125 :: z)) = _
        simp [pieceM, he]
      · rw [if_neg h32]
        have hdwz : ∀ y, dw (t.take (dw t) ++ y) = (t.take (dw t)).length := fun y => by rw [ht]; exact dw_enc hok y
        have hlen : (t.take (dw t)).length = dw t := by rw [List.length_take]; have := dw_len h; omega
        obtain ⟨u, hu⟩ : ∃ u, t.take (dw t) = u := ⟨_, rfl⟩
        rw [hu] at hdwz hlen ⊢
        have hune : u ≠ [] := by intro e; rw [e] at hlen; have := dw_pos h; simp at hlen; omega
        have hu0 : u.getD 0 0 = t.getD 0 0 := by
          rw [← hu]
          have := dw_pos h
          cases t with
          | nil => exact absurd rfl h
          | cons c r => rw [show dw (c :: r) = (dw (c :: r) - 1) + 1 by omega, List.take_succ_cons]; rfl
        cases u with
        | nil => exact absurd rfl hune
        | cons c r =>
          have hc0 : c = t.getD 0 0 := hu0
          have hcn : c.toNat = b0 t := by rw [hc0]; rfl
          by_cases hsg : dc t < 128 ∧ sgn (t.getD 0 0) = true
          · rw [if_pos hsg]
            rw [← hc0] at hsg
            have h120 : c ≠ 120 := by rintro rfl; exact absurd hsg.2 (by decide)
            have h117 : c ≠ 117 := by rintro rfl; exact absurd hsg.2 (by decide)
            have hz := hdwz z
            have he : esc (c :: r ++ z) = some (c :: r, 1 + (c :: r).length) := by
              rw [List.cons_append]
              simp only [esc]
              rw [if_neg h120, if_neg h117]
              rw [List.cons_append] at hz
              rw [hz, ← List.cons_append, List.take_left]
            show pieceM (92 :: (c :: r ++ z)) = _
            simp only [List.cons_append] at he ⊢
            simp [pieceM, he]
            omega
          · rw [if_neg hsg]
            have hns : sgn c = false := by
              cases hh : sgn c with
              | false => rfl
              | true =>
                exfalso
                have hca := sgn_ascii c hh
                refine hsg ⟨?_, by rw [← hc0]; exact hh⟩
                have hf := d_facts h
                rcases Nat.lt_or_ge (dw t) 2 with hd1 | hd2
                · rcases hf.2.2.2.2.1 (by have := hf.1; omega) with hq | hq
                  · omega
                  · omega
                · have := (hf.2.2.2.2.2.1 hd2).1
                  omega
            have hnb : blk c = false := by
              cases hh : blk c with
              | false => rfl
              | true =>
                exfalso
                have hca := blk_ascii c hh
                have hc32 : c.toNat ≤ 32 := (u8_all (P := fun c => blk c = true → c.toNat ≤ 32) (by decide +kernel)) c hh
                have hf := d_facts h
                rcases Nat.lt_or_ge (dw t) 2 with hd1 | hd2
                · rcases hf.2.2.2.2.1 (by have := hf.1; omega) with hq | hq
                  · omega
                  · omega
                · have := (hf.2.2.2.2.2.1 hd2).1
                  omega
            have h39 : c ≠ 39 := by rintro rfl; exact absurd hns (by decide)
            have h92 : c ≠ 92 := by rintro rfl; exact absurd hns (by decide)
            have hz := hdwz z
            rw [List.cons_append] at hz ⊢
            simp only [pieceM]
            rw [if_neg h39, if_neg h92, hnb, hns]
            simp only [Bool.or_self, Bool.false_eq_true, if_false]
            rw [hz, ← List.cons_append, List.take_left]
theorem qU_pos {t : List UInt8} (h : t ≠ []) : 1 ≤ (qU t).length := by
  have h1 := dw_pos h
  have h2 := dw_len h
  have h3 : (t.take (dw t)).length = dw t := by rw [List.length_take]; omega
  unfold qU
  repeat' split
  all_goals (try simp only [List.length_cons, List.length_nil])
  all_goals omega
theorem textM_q : ∀ n (l : List UInt8), l.length ≤ n → textM (quoteU (sfx l)) = (l, (quoteU (sfx l)).length, 0) := by
  intro n
  induction n with
  | zero =>
    intro l h
    obtain rfl : l = [] := List.eq_nil_of_length_eq_zero (by omega)
    rw [sfx_nil]
    show textM [] = ([], 0, 0)
    rw [textM]; simp
  | succ n ih =>
    intro l h
    by_cases hl : l = []
    · subst hl
      rw [sfx_nil]
      show textM [] = ([], 0, 0)
      rw [textM]; simp
    · have hp := dw_pos hl
      have hle := dw_len hl
      have hq := qU_pos hl
      rw [sfx_cons hl, quoteU_cons]
      have hih := ih (l.drop (dw l)) (by simp; omega)
      have hpc := piece_q hl (quoteU (sfx (l.drop (dw l))))
      generalize hX : qU l ++ quoteU (sfx (l.drop (dw l))) = X at hpc ⊢
      have hXl : X.length = (qU l).length + (quoteU (sfx (l.drop (dw l)))).length := by rw [← hX, List.length_append]
      have hXd : X.drop (qU l).length = quoteU (sfx (l.drop (dw l))) := by rw [← hX, List.drop_left]
      have hXne : X ≠ [] := by intro e; rw [e] at hXl; simp at hXl; omega
      rw [textM.eq_1 X, dif_neg hXne, hpc]
      simp only [ne_eq, not_true_eq_false, if_false]
      rw [dif_neg (by omega), hXd, hih, hXl]
      simp only [List.take_append_drop]
theorem qU_head {t : List UInt8} (h : t ≠ []) : ∃ c r, qU t = c :: r ∧ blk c = false ∧ (c = 92 ∨ sgn c = false) := by
  have hpc := piece_q h []
  rw [List.append_nil] at hpc
  have hp := qU_pos h
  cases hq : qU t with
  | nil => rw [hq] at hp; simp at hp
  | cons c r =>
    refine ⟨c, r, rfl, ?_⟩
    rw [hq] at hpc
    simp only [pieceM] at hpc
    by_cases h39 : c = 39
    · exfalso
      subst h39
      unfold qU at hq
      have h1 := dw_pos h
      split at hq
      · simp at hq
      split at hq
      · simp at hq
      split at hq
      · simp at hq
      split at hq
      · simp at hq
      · rename_i hsg
        cases t with
        | nil => exact absurd rfl h
        | cons d r2 =>
          rw [show dw (d :: r2) = (dw (d :: r2) - 1) + 1 by omega, List.take_succ_cons] at hq
          simp at hq
          obtain ⟨rfl, _⟩ := hq
          have h0 : b0 (39 :: r2) = 39 := rfl
          refine hsg ⟨?_, show sgn 39 = true by decide⟩
          have := (b0_unit (l := 39 :: r2) (by simp) (by rw [h0]; decide)).2
          rw [this, h0]; decide
    · rw [if_neg h39] at hpc
      by_cases h92 : c = 92
      · exact ⟨by rw [h92]; decide, .inl h92⟩
      · rw [if_neg h92] at hpc
        cases hb : (blk c || sgn c) with
        | true =>
          rw [hb] at hpc
          simp only [if_true, Prod.mk.injEq] at hpc
          have := hpc.2.1
          simp at this
        | false =>
          simp only [Bool.or_eq_false_iff] at hb
          exact ⟨hb.1, .inr hb.2⟩
theorem scanM_q (l : List UInt8) : scanM (quoteM l) = ([(1, l, quoteM l), (0, [], [])], none) := by
  unfold quoteM
  by_cases hl : l = []
  · rw [if_pos hl, hl]; decide +kernel
  · rw [if_neg hl]
    have hT := textM_q _ l (Nat.le_refl _)
    obtain ⟨c, r, hc, hb, hs⟩ := qU_head hl
    obtain ⟨X, hX⟩ : ∃ X, quoteU (sfx l) = X := ⟨_, rfl⟩
    have hXc : ∃ r', X = c :: r' := ⟨r ++ quoteU (sfx (l.drop (dw l))), by rw [← hX, sfx_cons hl, quoteU_cons, hc]; rfl⟩
    obtain ⟨r', hXr⟩ := hXc
    rw [hX] at hT ⊢
    have hsg : ∀ k : UInt8, sgn k = true → k ≠ 92 → c ≠ k := by
      rintro k hk h92 rfl
      rcases hs with rfl | hs
      · exact h92 rfl
      · rw [hs] at hk; cases hk
    have hpast : past X = X := by rw [hXr]; exact past_cons hb (hsg 35 (by decide) (by decide))
    have hone : oneM X = .tok 1 l X.length := by
      rw [hXr] at hT ⊢
      simp only [oneM]
      rw [if_neg (hsg 93 (by decide) (by decide)), if_neg (hsg 42 (by decide) (by decide)), if_neg (hsg 91 (by decide) (by decide)), if_neg, hT]
      · simp
      · rintro (e | e | e | e | e)
        · exact hsg 38 (by decide) (by decide) e
        · exact hsg 60 (by decide) (by decide) e
        · exact hsg 61 (by decide) (by decide) e
        · exact hsg 47 (by decide) (by decide) e
        · exact hsg 45 (by decide) (by decide) e
    rw [scanM_tok (by rw [hpast, hXr]; simp) (by rw [hpast]; exact hone), hpast, List.drop_length, scanM_end past_nil]
theorem hexd_10 : ∀ n, n < 16 → (10 : UInt8) ≠ hexd n := by decide
theorem qU_no10 {t : List UInt8} (h : t ≠ []) : (10 : UInt8) ∉ qU t := by
  have hb : b0 t < 256 := u8_lt _
  have h1 := hexd_10 (b0 t / 16) (by omega)
  have h2 := hexd_10 (b0 t % 16) (by omega)
  unfold qU
  split
  · simp [h1, h2]
  split
  · rename_i h16
    have h3 : b0 t < 16 := by
      have f := d_facts h
      have hd1 : dw t = 1 := by
        rcases Nat.lt_or_ge (dw t) 2 with h2 | h2
        · have := dw_pos h; omega
        · have := (f.2.2.2.2.2.1 h2).2; omega
      have := f.2.2.2.2.1 hd1
      omega
    have h4 := hexd_10 (b0 t) h3
    simp [h4]
  split
  · simp [h1, h2]
  · rename_i h16 h32
    have hn := List.count_eq_zero.1 (unit_no10 h (by omega))
    split
    · rw [List.mem_cons]
      rintro (e | e)
      · exact absurd e (by decide)
      · exact hn e
    · exact hn
theorem quoteU_no10 (q : List (List UInt8)) (h : ∀ t ∈ q, t ≠ []) : (10 : UInt8) ∉ quoteU q := by
  unfold quoteU
  rw [List.mem_flatMap]
  rintro ⟨t, ht, hm⟩
  exact qU_no10 (h t ht) hm
theorem quoteM_no10 (l : List UInt8) : (quoteM l).count 10 = 0 := by
  rw [List.count_eq_zero]
  unfold quoteM
  split
  · decide
  · exact quoteU_no10 _ (fun _ h => sfx_ne h)
theorem quoteU_len (q : List (List UInt8)) (h : ∀ t ∈ q, t ≠ []) : (quoteU q).length ≤ 6 * q.length := by
  induction q with
  | nil => simp [quoteU]
  | cons t q ih =>
    rw [quoteU_cons, List.length_append, List.length_cons]
    have := qU_len (h t (by simp))
    have := ih (fun x hx => h x (by simp [hx]))
    omega
theorem quoteM_len (l : List UInt8) : (quoteM l).length ≤ 6 * l.length + 2 := by
  unfold quoteM
  split
  · simp
  · have := quoteU_len (sfx l) (fun _ h => sfx_ne h)
    have := sfx_len l
    omega
end Go.Proofs.YtekoeobfddfgpaaGreatDoor.M
set_option linter.unusedVariables false
set_option linter.unusedSimpArgs false
namespace Go.Proofs.YtekoeobfddfgpaaGreatDoor.C
open Go Go.RowKit Go.Shelf Go.Proofs.YtekoeobfddfgpaaGreatDoor.M Go.Proofs.YtekoeobfddfgpaaGreatDoor.Z
theorem validRune_of {c : Nat} (h : okc c) : Lib.validRune (c : Int) = true := by
  unfold okc at h
  unfold Lib.validRune
  simp
  omega
theorem index_none : ∀ {l : List UInt8} {c : UInt8}, (∀ b ∈ l, b ≠ c) → Lib.indexByte l c = -1 := by
  intro l
  induction l with
  | nil => intro c h; rfl
  | cons b l ih =>
    intro c h
    rw [Lib.indexByte, if_neg (by simpa using h b (by simp)), ih (fun x hx => h x (by simp [hx]))]
    rfl
theorem ofNat_toNat8 {n : Nat} (h : n < 256) : (UInt8.ofNat n).toNat = n := by simp [UInt8.toNat_ofNat']; omega
theorem enc_high {c : Nat} (hc : okc c) (h : 128 ≤ c) : ∀ b ∈ enc c, 128 ≤ b.toNat := by
  rw [enc_eq hc]
  unfold okc at hc
  intro b hb
  split at hb
  · omega
  split at hb
  · simp only [List.mem_cons, List.not_mem_nil, or_false] at hb; rcases hb with rfl | rfl <;> rw [ofNat_toNat8 (by omega)] <;> omega
  split at hb
  · simp only [List.mem_cons, List.not_mem_nil, or_false] at hb; rcases hb with rfl | rfl | rfl <;> rw [ofNat_toNat8 (by omega)] <;> omega
  · simp only [List.mem_cons, List.not_mem_nil, or_false] at hb; rcases hb with rfl | rfl | rfl | rfl <;> rw [ofNat_toNat8 (by omega)] <;> omega
set_option maxHeartbeats 4000000 in
set_option maxRecDepth 100000 in
theorem index_wide (s : ByteArray) (hs : 4 ≤ s.size) (hs2 : s.size ≤ 1000) (ha : ∀ b ∈ bl s, b.toNat < 128) (c : Nat) (hc : okc c) (h : 128 ≤ c) (hn : c ≠ 65533) (w : World) :
    Calls Tryz.prog 87 #[.string s, .int .i32 c] w fun e w' => e = .returned (.int .i64 (-1)) ∧ Below w.heap.size w w' := by
  have h1 : (128 : Int) ≤ (c : Int) := by omega
  have h2 : ((c : Int) == 65533) = false := by simp; omega
  obtain ⟨rs, hrs⟩ : ∃ rs, Utf8.encode (c : Int) = rs := ⟨_, rfl⟩
  have hre : rs = ba (enc c) := by rw [← hrs]; exact (enc_ba c).symm
  have hrl : 1 ≤ rs.size ∧ rs.size ≤ 4 := by rw [← bl_len, hre, bl_ba]; exact enc_len hc
  obtain ⟨l, hl⟩ : ∃ l, rs.size - 1 = l := ⟨_, rfl⟩
  have hl1 : l < rs.size := by omega
  have hl2 : l < s.size := by omega
  have hli : (rs.size : Int) - 1 = (l : Nat) := by omega
  have hhi : 128 ≤ (rs[l]'hl1).toNat := by
    refine enc_high hc h _ ?_
    have : bl rs = enc c := by rw [hre, bl_ba]
    rw [← this, ← bl_get hl1]
    exact List.getElem_mem _
  have hlo : (s[l]'hl2).toNat < 128 := by
    refine ha _ ?_
    rw [← bl_get hl2]
    exact List.getElem_mem _
  have t1 : ((((s[l]'hl2).toNat : Nat) : Int) != (((rs[l]'hl1).toNat : Nat) : Int)) = true := by simp; omega
  obtain ⟨y, hy⟩ : ∃ y, s.extract (l + 1) s.size = y := ⟨_, rfl⟩
  have cI : ∀ W, Calls Tryz.prog 46 #[.string y, .int .u8 ((rs[l]'hl1).toNat : Nat)] W fun e w' => e = .returned (.int .i64 (-1)) ∧ w' = W := by
    intro W
    refine (Tryz.strings_IndexByte y ((rs[l]'hl1).toNat : Nat) W).mono ?_
    rintro e w' ⟨rfl, rfl⟩
    refine ⟨?_, rfl⟩
    rw [index_none]
    intro b hb e
    have hm : b ∈ bl s := by
      have : bl y = (bl s).drop (l + 1) := by rw [← hy, bl_extract]
      have hb' : b ∈ bl y := hb
      rw [this] at hb'
      exact List.mem_of_mem_drop hb'
    have := ha b hm
    rw [e] at this
    have e2 : ((((rs[l]'hl1).toNat : Nat) : Int).toNat.toUInt8) = rs[l]'hl1 := by simp
    rw [e2] at this
    omega
  have hsi : (s.size : Int) ≤ 1000 := by omega
  have hll : (l : Int) ≤ 3 := by omega
  have hls : (l : Int) < s.size := by omega
  have hls2 : (l : Int) + 1 ≤ s.size := by omega
  have hlr : (l : Int) < rs.size := by omega
  have hw1 : IntKind.i64.wrap ((l : Int) + 1) = (l : Int) + 1 := wrap_in (by omega) (by omega)
  have HH := Lib.hid (And.intro t1 (And.intro hrs (And.intro hy (And.intro hli (And.intro hw1 (And.intro hlr hls2))))))
  have HI := Lib.hid cI
  clear hre hrl hl hhi hlo ha hn h t1 hrs hy hli hw1 hlr hls2 cI hsi hll hls
  go_enter Tryz.func87, Tryz.ntmps87
  go_wp2_with fail
  refine (Tryz.utf8_ValidRune (c : Int) w).mono ?_
  rintro e w' ⟨rfl, rfl⟩
  rw [validRune_of hc]
  obtain ⟨t1, hrs, hy, hli, hw1, hlr, hls2⟩ := HH.out
  go_wp2_with fail
  refine scope_labels (fun (_ : Nat) (_ : Unit) (_ : Act) (_ : World) => False) (fun _ _ => 0) ?_ (by rintro l g a W h; exact h.elim)
  go_wp2_with fail
  go_loopw [9, 10] (fun iv fv wr => iv = .int .i64 l ∧ wr = w') (fun _ _ _ => 0)
  case atStart => exact ⟨rfl, rfl⟩
  case round =>
    obtain ⟨rfl, rfl⟩ := hrel
    go_wp2_with fail
    refine scope_labels (fun (_ : Nat) (_ : Unit) (_ : Act) (_ : World) => False) (fun _ _ => 0) ?_ (by rintro l g a W h; exact h.elim)
    go_wp2_with fail
    go_quiet (fail)
    have hb2 := below_drewN (Below.refl wr.heap.size wr) nq
    generalize wr.drewN nq = W2 at hb2 ⊢
    have z1 : (0 : Int) ≤ (l : Int) + 1 := by omega
    go_wp2_with fail
    go_quiet ((go_at_call 46; exact Calls.quiet_of_same (HI.out _)))
    go_wp2_with fail
    simp +zetaDelta only [jumps, Exit.inBlock, Exit.then]
    go_ret
    exact ⟨rfl, below_drewN hb2 _⟩
set_option maxHeartbeats 4000000 in
set_option maxRecDepth 100000 in
theorem index_fffd (s : ByteArray) (hs2 : s.size ≤ 1000) (ha : ∀ b ∈ bl s, b.toNat < 128) (w : World) :
    Calls Tryz.prog 87 #[.string s, .int .i32 65533] w fun e w' => e = .returned (.int .i64 (-1)) ∧ Below w.heap.size w w' := by
  have Ha := Lib.hid ha
  clear ha
  go_enter Tryz.func87, Tryz.ntmps87
  go_wp2_with fail
  go_loopw [] (fun wr => ∃ pos : Nat, wr.heap[w.heap.size]? = some (.stringIter s pos) ∧ Below w.heap.size w wr) (fun wr => s.size - wr.iterPos w.heap.size)
  case atStart =>
    refine ⟨0, ?_, ?_⟩
    · simpa using World.iter_heap w s 0
    · exact (Below.refl _ w).alloc (Nat.le_refl _) (.stringIter s 0)
  case round =>
    obtain ⟨pos, hit, hbw⟩ := hrel
    by_cases hp : pos < s.size
    · obtain ⟨t, ht⟩ : ∃ t, (bl s).drop pos = t := ⟨_, rfl⟩
      have hne : t ≠ [] := by rw [← ht]; exact bl_nonempty hp
      have hd : Utf8.decode s pos = (dc t, dw t) := by rw [← ht]; exact (Lib.decodeL_drop s pos).symm
      have hnx : ∀ ty, (Instr.next (.pointer (some ⟨w.heap.size, 0, none⟩)) true ty).run Tryz.prog wr = .ok (.tuple #[.bool true, .int .i64 pos, .int .i32 (dc t : Nat)]) (wr.iterAt w.heap.size s (pos + dw t)) := fun ty => by
        have := Lib.run_next_any_at (P := Tryz.prog) wr w.heap.size s pos ty hit hp
        rw [hd] at this
        exact this
      have hw1 := dw_pos hne
      have hb : b0 t < 128 := by
        cases t with
        | nil => exact absurd rfl hne
        | cons b r =>
          have : b ∈ bl s := List.mem_of_mem_drop (i := pos) (by rw [ht]; simp)
          exact Ha.out b this
      have hdc := (b0_unit hne hb).2
      have t1 : ((dc t : Int) == 65533) = false := by simp; omega
      have Hit2 := Lib.hid (Lib.iterAt_heap wr w.heap.size s pos (pos + dw t) hit)
      have HB2 := Lib.hid (Lib.below_iterAt hbw (Nat.le_refl _) s (pos + dw t))
      have Hhit := Lib.hid hit
      have Hm := Lib.hid (show s.size - (pos + dw t) < s.size - pos by omega)
      clear hd hit ht hne hbw hb hdc hw1
      go_wp2
      go_roundw
      case rel => exact ⟨pos + dw t, Hit2.out, HB2.out⟩
      case measure =>
        simp only [World.iterPos, Hit2.out, Hhit.out]
        exact Hm.out
    · have hnx : ∀ ty, (Instr.next (.pointer (some ⟨w.heap.size, 0, none⟩)) true ty).run Tryz.prog wr = _ := fun ty => Lib.run_next_end_at wr w.heap.size s pos ty hit hp
      go_wp2
      go_ret
      exact ⟨rfl, hbw⟩
theorem contains_wide (s : ByteArray) (hs : 4 ≤ s.size) (hs2 : s.size ≤ 1000) (ha : ∀ b ∈ bl s, b.toNat < 128) (c : Nat) (hc : okc c) (h : 128 ≤ c) (w : World) :
    Calls Tryz.prog 58 #[.string s, .int .i32 c] w fun e w' => e = .returned (.bool false) ∧ Below w.heap.size w w' := by
  have cI : Calls Tryz.prog 87 #[.string s, .int .i32 c] w fun e w' => e = .returned (.int .i64 (-1)) ∧ Below w.heap.size w w' := by
    by_cases hn : c = 65533
    · subst hn
      exact index_fffd s hs2 ha w
    · exact index_wide s hs hs2 ha c hc h hn w
  clear ha hc
  go_enter Tryz.func58, Tryz.ntmps58
  go_wp2_with fail
  refine cI.mono ?_
  rintro e w' ⟨rfl, hb⟩
  go_wp2_with fail
  go_ret
  exact ⟨rfl, hb⟩
end Go.Proofs.YtekoeobfddfgpaaGreatDoor.C
set_option linter.unusedVariables false
set_option linter.unusedSimpArgs false
namespace Go.Proofs.YtekoeobfddfgpaaGreatDoor.C
open Go Go.RowKit Go.Shelf Go.Proofs.YtekoeobfddfgpaaGreatDoor.M Go.Proofs.YtekoeobfddfgpaaGreatDoor.Z
structure QB (w : World) (it : Nat) (s : ByteArray) (pos : Nat) (out : List UInt8) (wr : World) : Prop where
  bd : ∃ p v, Bd wr w.heap.size w.heap.size p v out ∧ (∀ g, v.ownBlock = some g → w.heap.size ≤ g ∧ g ≠ it)
  bel : Below w.heap.size w wr
  hit : wr.heap[it]? = some (.stringIter s pos)
  gt : w.heap.size < it
theorem QB.bi {w wr : World} {it pos : Nat} {s : ByteArray} {out : List UInt8} (h : QB w it s pos out wr) : BI w out wr := by
  obtain ⟨p, v, hb, hv⟩ := h.bd
  exact ⟨⟨p, v, hb, fun g hg => (hv g hg).1⟩, h.bel⟩
theorem QB.lt {w wr : World} {it pos : Nat} {s : ByteArray} {out : List UInt8} (h : QB w it s pos out wr) : it < wr.heap.size := lt_of_obj h.hit
theorem QB.str {w wr : World} {it pos : Nat} {s : ByteArray} {out : List UInt8} (h : QB w it s pos out wr) (x : ByteArray) (hlen : out.length + x.size ≤ 140737488355328) :
    Calls Tryz.prog 57 #[.pointer (some ⟨w.heap.size, 0, none⟩), .string x] wr fun e w' => e = .returned (.tuple #[.int .i64 x.size, .nilIface]) ∧ QB w it s pos (out ++ bl x) w' := by
  have hlt := h.lt
  have hgt := h.gt
  obtain ⟨p, v, hb, hv⟩ := h.bd
  refine (writestr_any hb x hlen h.bel.size).mono ?_
  rintro e w' ⟨rfl, v', hb', hk, hv'⟩
  refine ⟨rfl, ⟨_, _, hb', fun g hg => (hv' g hg).elim (hv g) (fun e => ⟨by have := h.bel.size; omega, by omega⟩)⟩, h.bel.trans (hk.below h.bel.size (fun k z => z.elim (fun e => by omega) (fun e => (hv k e).1))), hk.obj h.hit ?_, hgt⟩
  rintro (e | e)
  · omega
  · exact (hv _ e).2 rfl
theorem QB.keep {w wr w' : World} {it pos : Nat} {s : ByteArray} {out : List UInt8} (h : QB w it s pos out wr) (hk : Keeps none' wr w') : QB w it s pos out w' := by
  obtain ⟨p, v, hb, hv⟩ := h.bd
  exact ⟨⟨_, _, hb.keeps hk (fun h => h) (fun _ _ h => h), hv⟩, h.bel.trans (hk.below h.bel.size (fun _ z => z.elim)), hk.obj h.hit (fun h => h), h.gt⟩
theorem QB.step {w wr : World} {it pos : Nat} {s : ByteArray} {out : List UInt8} (h : QB w it s pos out wr) (pos' : Nat) : QB w it s pos' out (wr.iterAt it s pos') := by
  obtain ⟨p, v, hb, hv⟩ := h.bd
  have hgt := h.gt
  have hk : Keeps (fun k => k = it) wr (wr.iterAt it s pos') := ⟨rfl, rfl, rfl, by rw [Lib.iterAt_size]; exact Nat.le_refl _, fun i _ hz => Lib.iterAt_other wr it i s pos' hz⟩
  exact ⟨⟨_, _, hb.keeps hk (fun e => by omega) (fun g hg e => (hv g hg).2 e), hv⟩, h.bel.trans (hk.below h.bel.size (fun k e => by omega)), Lib.iterAt_heap wr it s pos pos' h.hit, hgt⟩
theorem QB.new (w : World) (s : ByteArray) : QB w (w.heap.size + 1) s 0 [] ((w.alloc (.cells #[.pointer none, .slice none 0 0] 90)).iter s 0) := by
  have k : Keeps none' (w.alloc (.cells #[.pointer none, .slice none 0 0] 90)) ((w.alloc (.cells #[.pointer none, .slice none 0 0] 90)).iter s 0) := Keeps.alloc _ _ (.stringIter s 0)
  refine ⟨⟨_, _, (Bd.new w).keeps k (fun h => h) (fun _ _ h => h), by simp [Value.ownBlock]⟩, (BI.new w).bel.trans (k.below (by simp) (fun _ z => z.elim)), ?_, by omega⟩
  have := World.iter_heap (w.alloc (.cells #[.pointer none, .slice none 0 0] 90)) s 0
  simpa using this
theorem bl_append (a b : ByteArray) : bl (a ++ b) = bl a ++ bl b := by simp [bl]
theorem hex_at : ∀ n, n < 16 → bl ((⟨#[48, 49, 50, 51, 52, 53, 54, 55, 56, 57, 97, 98, 99, 100, 101, 102]⟩ : ByteArray).extract n (n + 1)) = [hexd n] := by decide +kernel
theorem hex_sz : ∀ n, n < 16 → ((⟨#[48, 49, 50, 51, 52, 53, 54, 55, 56, 57, 97, 98, 99, 100, 101, 102]⟩ : ByteArray).extract n (n + 1)).size = 1 := by decide +kernel
theorem take_u {t : List UInt8} (h : t ≠ []) : (t.take (dw t)).length = dw t := by rw [List.length_take]; have := dw_len h; omega
theorem u8_add1 (n : Nat) (h : n < 16) : IntKind.u8.wrap ((n : Int) + 1) = (n : Int) + 1 := by
  have : ∀ n : Nat, n < 16 → IntKind.u8.wrap ((n : Int) + 1) = (n : Int) + 1 := by decide +kernel
  exact this n h
theorem unit_low {t : List UInt8} (h : t ≠ []) (hl : dc t < 128) : b0 t = dc t ∧ dw t = 1 := by
  have f := d_facts h
  have h1 : dw t = 1 := by
    rcases Nat.lt_or_ge (dw t) 2 with h2 | h2
    · have := dw_pos h; omega
    · have := (f.2.2.2.2.2.1 h2).2; omega
  exact ⟨by have := f.2.2.2.2.1 h1; omega, h1⟩
theorem signs_low : ∀ b ∈ bl ⟨#[38, 60, 61, 47, 45, 91, 93, 35, 42, 39, 92]⟩, b.toNat < 128 := by decide +kernel
theorem contains_sgn {t : List UInt8} (h : t ≠ []) (w : World) :
    Calls Tryz.prog 58 #[.string ⟨#[38, 60, 61, 47, 45, 91, 93, 35, 42, 39, 92]⟩, .int .i32 (dc t : Nat)] w fun e w' => e = .returned (.bool (decide (dc t < 128) && sgn (t.getD 0 0))) ∧ Below w.heap.size w w' := by
  by_cases hl : dc t < 128
  · have hb := (unit_low h hl).1
    refine (Tryz.strings_ContainsRune_ascii ⟨#[38, 60, 61, 47, 45, 91, 93, 35, 42, 39, 92]⟩ (dc t : Nat) w (by omega) (by omega)).mono ?_
    rintro e w' ⟨rfl, rfl⟩
    have e1 : ((dc t : Nat) : Int).toNat.toUInt8 = t.getD 0 0 := by
      rw [← hb]
      exact u8_nat (t.getD 0 0)
    refine ⟨?_, Below.refl _ _⟩
    rw [e1, decide_eq_true hl, Bool.true_and, ← idx_sgn (t.getD 0 0)]
  · refine (contains_wide ⟨#[38, 60, 61, 47, 45, 91, 93, 35, 42, 39, 92]⟩ (by decide) (by decide) signs_low (dc t) (okc_dc h) (by omega) w).mono ?_
    rintro e w' ⟨rfl, hb⟩
    rw [decide_eq_false hl]
    exact ⟨rfl, hb⟩
set_option maxHeartbeats 8000000 in
set_option maxRecDepth 100000 in
theorem quote_any (s : ByteArray) (hs : s.size ≤ 1000000000000) (w : World) (hT : Lib.Utf8Tabs 2 3 w) :
    Calls Tryz.prog 26 #[.string s] w fun e w' => e = .returned (.string (ba (quoteM (bl s)))) ∧ Below w.heap.size w w' := by
  have hbl := bl_len s
  by_cases h0 : s.toList = []
  · have hb0 : bl s = [] := by
      have : s.toList = bl s := by rw [ByteArray.toList_eq]
      rw [← this, h0]
    have hq : ba (quoteM (bl s)) = ⟨#[39, 39]⟩ := by rw [hb0]; rfl
    rw [hq]
    clear hq hb0 hbl
    go_enter Tryz.func26, Tryz.ntmps26
    go_wp2_with fail
    go_ret
    exact ⟨rfl, Below.refl _ _⟩
  · have hb0 : bl s ≠ [] := by
      have : s.toList = bl s := by rw [ByteArray.toList_eq]
      rw [← this]; exact h0
    have hq : quoteM (bl s) = quoteU (sfx (bl s)) := by unfold quoteM; rw [if_neg hb0]
    rw [hq]
    obtain ⟨Q, hQ⟩ : ∃ Q, quoteU (sfx (bl s)) = Q := ⟨_, rfl⟩
    rw [hQ]
    have HQ := Lib.hid hQ
    have hN := QB.new w s
    have h0b : s.toList.isEmpty = false := by cases h : s.toList with
      | nil => exact absurd h h0
      | cons a r => rfl
    have HT := Lib.hid hT
    clear hq hb0 hQ hT
    go_enter Tryz.func26, Tryz.ntmps26
    go_wp2_with fail
    go_loopw [] (fun wr => ∃ (pos : Nat) (pre : List (List UInt8)), Hid (sfx (bl s) = pre ++ sfx ((bl s).drop pos)) ∧ pos ≤ s.size ∧ (quoteU pre).length ≤ 6 * pos ∧ QB w (w.heap.size + 1) s pos (quoteU pre) wr) (fun wr => s.size - wr.iterPos (w.heap.size + 1))
    case atStart => exact ⟨0, [], by simp [Hid], Nat.zero_le _, by simp [quoteU], hN⟩
    case round =>
      obtain ⟨pos, pre, hpre, hps, hlo, hB⟩ := hrel
      have hit := hB.hit
      by_cases hp : pos < s.size
      · obtain ⟨t, ht⟩ : ∃ t, (bl s).drop pos = t := ⟨_, rfl⟩
        have hne : t ≠ [] := by rw [← ht]; exact bl_nonempty hp
        have hdc : Utf8.decode s pos = (dc t, dw t) := by rw [← ht]; exact (Lib.decodeL_drop s pos).symm
        have hnx : ∀ ty, (Instr.next (.pointer (some ⟨w.heap.size + 1, 0, none⟩)) true ty).run Tryz.prog wr = .ok (.tuple #[.bool true, .int .i64 pos, .int .i32 (dc t : Nat)]) (wr.iterAt (w.heap.size + 1) s (pos + dw t)) := fun ty => by
          have := Lib.run_next_any_at (P := Tryz.prog) wr (w.heap.size + 1) s pos ty hit hp
          rw [hdc] at this
          exact this
        have hB1 := hB.step (pos + dw t)
        have hpre2 : Hid (sfx (bl s) = (pre ++ [t]) ++ sfx ((bl s).drop (pos + dw t))) := by
          show sfx (bl s) = _
          rw [← List.drop_drop, ht, hpre.out, ht, sfx_cons hne]; simp
        obtain ⟨W1, hW1⟩ : ∃ W1, wr.iterAt (w.heap.size + 1) s (pos + dw t) = W1 := ⟨_, rfl⟩
        rw [hW1] at hB1 hnx
        have cD := decode_rest s pos W1 (tabs_below HT.out hB1.bel (Nat.le_refl _)) hp
        rw [ht] at cD
        have hql := qU_len hne
        have hq2 := quoteU_snoc pre t
        have hle := dw_len hne
        rw [← ht, List.length_drop, hbl, ht] at hle
        have hlp := dw_pos hne
        have Hp2 := hpre2
        have Hht := Lib.hid ht
        have Hne := Lib.hid hne
        have Hm : Hid (s.size - (pos + dw t) < s.size - pos) := Lib.hid (by omega)
        have Hit := Lib.hid hit
        have hbt := byte_at hp
        rw [ht] at hbt
        have hb8 : b0 t < 256 := u8_lt _
        have hqU : ∃ q, qU t = q := ⟨_, rfl⟩
        obtain ⟨q, hqU⟩ := hqU
        rw [hqU] at hq2 hql
        have hqs : (quoteU (pre ++ [t])).length ≤ 6 * (pos + dw t) := by rw [hq2, List.length_append]; omega
        have hpi : (pos : Int) < (s.size : Int) := by omega
        have Hqs := Lib.hid hqs
        have hle2 : pos + dw t ≤ s.size := by omega
        have Hlo := Lib.hid hlo
        have Hq2 := Lib.hid hq2
        have hql2 : (quoteU pre).length + 6 ≤ 140737488355328 := by omega
        obtain ⟨x, hx⟩ : ∃ x, b0 t / 16 = x := ⟨_, rfl⟩
        obtain ⟨y, hy⟩ : ∃ y, b0 t % 16 = y := ⟨_, rfl⟩
        have d1 : ((b0 t : Nat) : Int) / 16 = (x : Nat) := by omega
        have dA := u8_and15 (x := ((b0 t : Nat) : Int)) (by omega) (by omega)
        rw [show ((b0 t : Nat) : Int) % 16 = (y : Nat) by omega] at dA
        have d2 : IntKind.u8.wrap ((x : Int) + 1) = (x : Int) + 1 := u8_add1 _ (by omega)
        have d3 : (x : Int) + 1 ≤ 16 := by omega
        have d4 : (x : Int) < 16 := by omega
        have e2 : IntKind.u8.wrap ((y : Int) + 1) = (y : Int) + 1 := u8_add1 _ (by omega)
        have e3 : (y : Int) + 1 ≤ 16 := by omega
        have e4 : (y : Int) < 16 := by omega
        have d5 : (0 : Int) ≤ (x : Int) + 1 := by omega
        have d6 : (x : Int) ≤ (x : Int) + 1 := by omega
        have e5 : (0 : Int) ≤ (y : Int) + 1 := by omega
        have e6 : (y : Int) ≤ (y : Int) + 1 := by omega
        obtain ⟨X, hX⟩ : ∃ X, (⟨#[48, 49, 50, 51, 52, 53, 54, 55, 56, 57, 97, 98, 99, 100, 101, 102]⟩ : ByteArray).extract x (x + 1) = X := ⟨_, rfl⟩
        obtain ⟨Y, hY⟩ : ∃ Y, (⟨#[48, 49, 50, 51, 52, 53, 54, 55, 56, 57, 97, 98, 99, 100, 101, 102]⟩ : ByteArray).extract y (y + 1) = Y := ⟨_, rfl⟩
        have bX : bl X = [hexd x] := by rw [← hX]; exact hex_at x (by omega)
        have bY : bl Y = [hexd y] := by rw [← hY]; exact hex_at y (by omega)
        have sX : X.size = 1 := by rw [← hX]; exact hex_sz x (by omega)
        have sY : Y.size = 1 := by rw [← hY]; exact hex_sz y (by omega)
        have BX := Lib.hid bX
        have BY := Lib.hid bY
        clear bX bY
        by_cases hill : ill t = true
        · have hi2 : dc t = 65533 ∧ dw t = 1 := by simpa [ill] using hill
          have t1 : ((dc t : Int) == 65533) = true := by rw [hi2.1]; rfl
          have t2 : ((dw t : Int) == 1) = true := by rw [hi2.2]; rfl
          clear hit ht hne hdc hpre hpre2 hlo hqs hle hq2 hi2
          go_wp2_with fail
          refine cD.mono ?_
          rintro e W2 ⟨rfl, hb2⟩
          have hB2 := hB1.keep (Keeps.of_below0 hb2)
          clear cD hB1 hb2
          go_wp2_with fail
          go_still_tail 14, (by kernel_rfl)
          have hB3 := hB2.keep (Keeps.drew none' W2)
          have cW := hB3.str (⟨#[92, 120]⟩ ++ X ++ Y) (by rw [ByteArray.size_append, ByteArray.size_append, sX, sY]; show _ + (2 + 1 + 1) ≤ _; omega)
          change wpList _ _ _ _ _ W2.drew
          rw [bl_append, bl_append, BX.out, BY.out, show bl ⟨#[92, 120]⟩ ++ [hexd x] ++ [hexd y] = q by rw [← hqU, qU, if_pos hill, hx, hy]; rfl, ← Hq2.out] at cW
          generalize W2.drew = W3 at hB3 cW ⊢
          go_wp2_with fail
          refine cW.mono ?_
          rintro e W4 ⟨rfl, hB4⟩
          have HB4 := Lib.hid hB4
          clear hB4 cW hB3 hB2
          go_wp2_with fail
          go_roundw
          case rel => exact ⟨pos + dw t, pre ++ [t], Hp2, hle2, Hqs.out, HB4.out⟩
          case measure =>
            simp only [World.iterPos, HB4.out.hit, Hit.out]
            exact Hm.out
        · have hnl : ¬ (dc t = 65533 ∧ dw t = 1) := fun h => hill (by simp [ill, h.1, h.2])
          by_cases h16 : dc t < 16
          · have hb := (unit_low hne (by omega)).1
            have t1 : (((dc t : Nat) : Int) == 65533) = false := by simp; omega
            have t2 : ((dc t : Nat) : Int) < 16 := by omega
            have hxy : y = dc t := by omega
            have cWp := fun (W3 : World) (hB3 : QB w (w.heap.size + 1) s (pos + dw t) (quoteU pre) W3) => hB3.str (⟨#[92, 117, 123]⟩ ++ Y ++ ⟨#[125]⟩) (by rw [ByteArray.size_append, ByteArray.size_append, sY]; show _ + (3 + 1 + 1) ≤ _; omega)
            rw [bl_append, bl_append, BY.out, show bl ⟨#[92, 117, 123]⟩ ++ [hexd y] ++ bl ⟨#[125]⟩ = q by rw [← hqU, qU, if_neg hill, if_pos h16, hb, hxy]; rfl, ← Hq2.out] at cWp
            rw [hb] at hbt
            subst hxy
            clear hit ht hne hdc hpre hpre2 hlo hqs hle hq2 dA d1 hx hy hb hX
            go_wp2_with fail
            refine cD.mono ?_
            rintro e W2 ⟨rfl, hb2⟩
            have hB2 := hB1.keep (Keeps.of_below0 hb2)
            have cW := cWp W2 hB2
            clear cD hB1 hb2 cWp hB2
            go_wp2_with fail
            refine cW.mono ?_
            rintro e W4 ⟨rfl, hB4⟩
            have HB4 := Lib.hid hB4
            clear hB4 cW
            go_wp2_with fail
            go_roundw
            case rel => exact ⟨pos + dw t, pre ++ [t], Hp2, hle2, Hqs.out, HB4.out⟩
            case measure =>
              simp only [World.iterPos, HB4.out.hit, Hit.out]
              exact Hm.out
          · have n16 : (16 : Int) ≤ ((dc t : Nat) : Int) := by omega
            by_cases h32 : dc t ≤ 32 ∨ dc t = 127
            · have hb := (unit_low hne (by omega)).1
              have t1 : (((dc t : Nat) : Int) == 65533) = false := by simp; omega
              have cWp := fun (W3 : World) (hB3 : QB w (w.heap.size + 1) s (pos + dw t) (quoteU pre) W3) => hB3.str (⟨#[92, 117, 123]⟩ ++ X ++ Y ++ ⟨#[125]⟩) (by rw [ByteArray.size_append, ByteArray.size_append, ByteArray.size_append, sX, sY]; show _ + (3 + 1 + 1 + 1) ≤ _; omega)
              rw [bl_append, bl_append, bl_append, BX.out, BY.out, show bl ⟨#[92, 117, 123]⟩ ++ [hexd x] ++ [hexd y] ++ bl ⟨#[125]⟩ = q by rw [← hqU, qU, if_neg hill, if_neg h16, if_pos h32, hx, hy]; rfl, ← Hq2.out] at cWp
              clear hit ht hne hdc hpre hpre2 hlo hqs hle hq2 hx hy hb
              have hr : ((dc t : Nat) : Int) ≤ 32 ∨ (32 < ((dc t : Nat) : Int) ∧ (((dc t : Nat) : Int) == 127) = true) := by
                by_cases h : dc t ≤ 32
                · exact .inl (by omega)
                · exact .inr ⟨by omega, by simp; omega⟩
              rcases hr with r1 | ⟨r1, r2⟩
              · go_wp2_with fail
                refine cD.mono ?_
                rintro e W2 ⟨rfl, hb2⟩
                have hB2 := hB1.keep (Keeps.of_below0 hb2)
                have hB3 := hB2.keep (Keeps.drew none' W2)
                have cW := cWp W2.drew hB3
                clear cD hB1 hb2 cWp hB2
                go_wp2_with fail
                go_still_tail 15, (by kernel_rfl)
                change wpList _ _ _ _ _ W2.drew
                generalize W2.drew = W3 at hB3 cW ⊢
                go_wp2_with fail
                refine cW.mono ?_
                rintro e W4 ⟨rfl, hB4⟩
                have HB4 := Lib.hid hB4
                clear hB4 cW
                go_wp2_with fail
                go_roundw
                case rel => exact ⟨pos + dw t, pre ++ [t], Hp2, hle2, Hqs.out, HB4.out⟩
                case measure =>
                  simp only [World.iterPos, HB4.out.hit, Hit.out]
                  exact Hm.out
              · go_wp2_with fail
                refine cD.mono ?_
                rintro e W2 ⟨rfl, hb2⟩
                have hB2 := hB1.keep (Keeps.of_below0 hb2)
                have hB3 := hB2.keep (Keeps.drew none' W2)
                have cW := cWp W2.drew hB3
                clear cD hB1 hb2 cWp hB2
                go_wp2_with fail
                go_still_tail 15, (by kernel_rfl)
                change wpList _ _ _ _ _ W2.drew
                generalize W2.drew = W3 at hB3 cW ⊢
                go_wp2_with fail
                refine cW.mono ?_
                rintro e W4 ⟨rfl, hB4⟩
                have HB4 := Lib.hid hB4
                clear hB4 cW
                go_wp2_with fail
                go_roundw
                case rel => exact ⟨pos + dw t, pre ++ [t], Hp2, hle2, Hqs.out, HB4.out⟩
                case measure =>
                  simp only [World.iterPos, HB4.out.hit, Hit.out]
                  exact Hm.out
            · have r1 : 32 < ((dc t : Nat) : Int) := by omega
              have r2 : (((dc t : Nat) : Int) == 127) = false := by simp; omega
              have cC := fun W => contains_sgn hne W
              obtain ⟨v, hv⟩ : ∃ v, (decide (dc t < 128) && sgn (t.getD 0 0)) = v := ⟨_, rfl⟩
              rw [hv] at cC
              have p1 : (pos : Int) + ((dw t : Nat) : Int) ≤ (s.size : Int) := by omega
              have p2 : (0 : Int) ≤ (pos : Int) + ((dw t : Nat) : Int) := by omega
              have p3 : (pos : Int) ≤ (pos : Int) + ((dw t : Nat) : Int) := by omega
              have p4 : ((pos : Int) + ((dw t : Nat) : Int)).toNat = pos + dw t := by omega
              have p5 : IntKind.i64.wrap ((pos : Int) + ((dw t : Nat) : Int)) = (pos : Int) + ((dw t : Nat) : Int) := wrap_in (by omega) (by omega)
              obtain ⟨u, hu⟩ : ∃ u, s.extract pos (pos + dw t) = u := ⟨_, rfl⟩
              have hbu : bl u = t.take (dw t) := by rw [← hu, extract_ba (by omega), bl_ba, List.drop_take, ht, Nat.add_sub_cancel_left]
              have hul : u.size ≤ 4 := by
                rw [← bl_len, hbu]
                cases hi : ill t with
                | true => exact absurd hi hill
                | false => rw [take_enc hne hi]; exact (enc_len (okc_dc hne)).2
              have hui : ((u.size : Nat) : Int) ≤ 8388608 := by omega
              have hqv : q = (if v = true then 92 :: t.take (dw t) else t.take (dw t)) := by
                rw [← hqU, qU, if_neg hill, if_neg h16, if_neg h32, ← hv]
                simp only [Bool.and_eq_true, decide_eq_true_eq]
              have hgd : ((((dc t : Nat) : Int) == 65533) = false) ∨ ((((dc t : Nat) : Int) == 65533) = true ∧ (((dw t : Nat) : Int) == 1) = false) := by
                by_cases h : dc t = 65533
                · exact .inr ⟨by simp; omega, by simp; intro e; exact hnl ⟨h, by omega⟩⟩
                · exact .inl (by simp; omega)
              have Hbu := Lib.hid hbu
              clear hit ht hne hdc hpre hpre2 hlo hqs hle hq2 hx hy hbu hv
              cases v with
              | true =>
                have cWp := fun (W3 : World) (hB3 : QB w (w.heap.size + 1) s (pos + dw t) (quoteU pre) W3) => hB3.str (⟨#[92]⟩ ++ u) (by rw [ByteArray.size_append]; show _ + (1 + _) ≤ _; omega)
                rw [bl_append, Hbu.out, show bl ⟨#[92]⟩ ++ t.take (dw t) = q by rw [hqv]; rfl, ← Hq2.out] at cWp
                rcases hgd with t1 | ⟨t1, t2⟩
                all_goals
                  go_wp2_with fail
                  refine cD.mono ?_
                  rintro e W2 ⟨rfl, hb2⟩
                  have hB2 := hB1.keep (Keeps.of_below0 hb2)
                  clear cD hB1 hb2
                  go_wp2_with fail
                  refine (cC _).mono ?_
                  rintro e W3 ⟨rfl, hb3⟩
                  have hB3 := hB2.keep (Keeps.of_below0 hb3)
                  have cW := cWp W3 hB3
                  clear cC hB2 hb3 cWp hB3
                  go_wp2_with fail
                  refine cW.mono ?_
                  rintro e W4 ⟨rfl, hB4⟩
                  have HB4 := Lib.hid hB4
                  clear hB4 cW
                  go_wp2_with fail
                  go_roundw
                  case rel => exact ⟨pos + dw t, pre ++ [t], Hp2, hle2, Hqs.out, HB4.out⟩
                  case measure =>
                    simp only [World.iterPos, HB4.out.hit, Hit.out]
                    exact Hm.out
              | false =>
                have cWp := fun (W3 : World) (hB3 : QB w (w.heap.size + 1) s (pos + dw t) (quoteU pre) W3) => hB3.str u (by omega)
                rw [Hbu.out, show t.take (dw t) = q by rw [hqv]; rfl, ← Hq2.out] at cWp
                rcases hgd with t1 | ⟨t1, t2⟩
                all_goals
                  go_wp2_with fail
                  refine cD.mono ?_
                  rintro e W2 ⟨rfl, hb2⟩
                  have hB2 := hB1.keep (Keeps.of_below0 hb2)
                  clear cD hB1 hb2
                  go_wp2_with fail
                  refine (cC _).mono ?_
                  rintro e W3 ⟨rfl, hb3⟩
                  have hB3 := hB2.keep (Keeps.of_below0 hb3)
                  have cW := cWp W3 hB3
                  clear cC hB2 hb3 cWp hB3
                  go_wp2_with fail
                  refine cW.mono ?_
                  rintro e W4 ⟨rfl, hB4⟩
                  have HB4 := Lib.hid hB4
                  clear hB4 cW
                  go_wp2_with fail
                  go_roundw
                  case rel => exact ⟨pos + dw t, pre ++ [t], Hp2, hle2, Hqs.out, HB4.out⟩
                  case measure =>
                    simp only [World.iterPos, HB4.out.hit, Hit.out]
                    exact Hm.out
      · have hnx : ∀ ty, (Instr.next (.pointer (some ⟨w.heap.size + 1, 0, none⟩)) true ty).run Tryz.prog wr = _ := fun ty => Lib.run_next_end_at wr (w.heap.size + 1) s pos ty hit hp
        have hq : quoteU pre = Q := by
          rw [← HQ.out, hpre.out, List.drop_of_length_le (by rw [hbl]; omega), sfx_nil, List.append_nil]
        subst hq
        have cF := hB.bi.fin
        clear hpre hit hB hN
        go_wp2_with fail
        refine cF.mono ?_
        rintro e w' ⟨rfl, hb⟩
        go_wp2_with fail
        go_ret
        exact ⟨rfl, hb⟩
end Go.Proofs.YtekoeobfddfgpaaGreatDoor.C
set_option linter.unusedVariables false
set_option linter.unusedSimpArgs false
namespace Go.Proofs.YtekoeobfddfgpaaGreatDoor.C
open Go Go.RowKit Go.Shelf Go.Proofs.YtekoeobfddfgpaaGreatDoor.M Go.Proofs.YtekoeobfddfgpaaGreatDoor.Z
theorem quote_lines (l : List UInt8) : linesN (quoteM l) ≤ 1 := by
  unfold linesN
  rw [quoteM_no10]
  split <;> omega
theorem scanE_q {l : List UInt8} (h : (quoteM l).length ≤ 1048576) : scanE (quoteM l) = none := by
  have := quote_lines l
  unfold scanE
  rw [if_neg (by omega), if_neg (by omega), scanM_q]
set_option maxHeartbeats 4000000 in
set_option maxRecDepth 100000 in
theorem back_any (w : World) (hT : Lib.Utf8Tabs 2 3 w) (hE : HE w) (s : ByteArray) (hs : s.size ≤ 1000000000000) :
    Calls Tryz.prog 28 #[.string s] w fun e w' => e = .returned (.bool true) ∧ Below w.heap.size w w' := by
  have hL : Laid w := ⟨hT, hE⟩
  clear hE
  have cQ := quote_any s hs w hT
  obtain ⟨t, ht⟩ : ∃ t, ba (quoteM (bl s)) = t := ⟨_, rfl⟩
  rw [ht] at cQ
  have hbt : bl t = quoteM (bl s) := by rw [← ht, bl_ba]
  have hts : t.size = (quoteM (bl s)).length := by rw [← bl_len, hbt]
  have hle : t.size ≤ 140737488351232 := by have := quoteM_len (bl s); rw [bl_len] at this; omega
  have cS : ∀ W, Below w.heap.size w W → Calls Tryz.prog 8 #[.string t] W (ScanP t W) := fun W hb => scan_any t W hle (hL.below hb).1
  have cW : ∀ W, Below w.heap.size w W → Calls Tryz.prog 6 #[] W fun e w' => e = .returned (.bool true) ∧ Below W.heap.size W w' := fun W hb => works_any W (hL.below hb).1 (hL.below hb).2
  have cA : ∀ W, Below w.heap.size w W → Calls Tryz.prog 9 #[Go.Proofs.YtekoeobfddfgpaaGreatDoor.E.flt 5 0 0, .int .i64 5, .int .i64 0, .int .i64 0] W fun e w' => e = .returned (.bool true) ∧ Below W.heap.size W w' := fun W hb => (Go.Proofs.YtekoeobfddfgpaaGreatDoor.E.at_fault 5 0 0 W (by decide) (by decide) (hL.below hb).2).mono (fun e w' h => by simpa using h)
  have Hts := Lib.hid hts
  have Hbt := Lib.hid hbt
  clear hL hT ht hbt hts
  go_enter Tryz.func28, Tryz.ntmps28
  go_wp2_with fail
  refine cQ.mono ?_
  rintro e w1 ⟨rfl, hb1⟩
  have cS1 := cS w1 hb1
  clear cQ cS
  go_wp2_with fail
  refine cS1.mono ?_
  rintro e w2 ⟨hb2, hr⟩
  have hb12 := hb1.trans (hb2.mono hb1.size)
  clear cS1
  by_cases hbig : 1048576 < t.size
  · have i1 : (1048576 : Int) < (t.size : Int) := by omega
    have hE5 : scanE (bl t) = some (5, 0, 0) := by unfold scanE; rw [if_pos (by rw [bl_len]; exact hbig)]
    rw [hE5] at hr
    have hr' : e = .returned (.tuple #[.slice none 0 0, Go.Proofs.YtekoeobfddfgpaaGreatDoor.E.flt (5 : Nat) (0 : Nat) (0 : Nat)]) := by
      rcases hr with ⟨no, ln, cl, hr, he⟩ | ⟨hr, _⟩
      · simp only [Option.some.injEq, Prod.mk.injEq] at hr
        obtain ⟨rfl, rfl, rfl⟩ := hr
        exact he
      · cases hr
    subst hr'
    have cA2 := cA w2 hb12
    have HB := Lib.hid hb12
    clear hr hb1 hb2 hb12 hE5 hbig cA
    go_wp2_with fail
    refine cA2.mono ?_
    rintro e w3 ⟨rfl, hb3⟩
    have hb4 := HB.out.trans (hb3.mono HB.out.size)
    have cW1 := cW w3 hb4
    have HC := Lib.hid hb4
    clear hb3 hb4 cW
    go_wp2_with fail
    refine cW1.mono ?_
    rintro e w4 ⟨rfl, hb5⟩
    have HD := Lib.hid (HC.out.trans (hb5.mono HC.out.size))
    clear hb5
    go_wp2_with fail
    go_ret
    exact ⟨rfl, HD.out⟩
  · have i1 : (t.size : Int) ≤ 1048576 := by omega
    have hEn : scanE (bl t) = none := by rw [Hbt.out]; exact scanE_q (by rw [← Hts.out]; omega)
    rcases hr with ⟨no, ln, cl, hr, _⟩ | ⟨_, v, rfl, hown⟩
    · rw [hEn] at hr; cases hr
    rw [Hbt.out, scanM_q] at hown
    obtain ⟨g, cap, hK⟩ := toks_of hown (by simp)
    have hv : v = .slice (some ⟨g, 0, none⟩) (2 : Nat) cap := hK.v
    obtain rfl := hv
    have k0 : w2.cell? ⟨g, 0, none⟩ = some (.int .i64 1) := hK.c0 0 _ rfl
    have k1 : w2.cell? ⟨g, 1, none⟩ = some (.string s) := by
      have := hK.c1 0 _ rfl
      simp only [ba_bl] at this
      exact this
    have k4 : w2.cell? ⟨g, 4, none⟩ = some (.int .i64 0) := by
      have := hK.c4 0 _ rfl
      simp only [Nat.sub_self] at this
      exact this
    have k5 : w2.cell? ⟨g, 5, none⟩ = some (.int .i64 0) := hK.c0 1 _ rfl
    have k9 : w2.cell? ⟨g, 9, none⟩ = some (.int .i64 (t.size : Nat)) := by
      have := hK.c4 1 _ rfl
      simp only [List.length_nil, Nat.sub_zero, ← Hts.out] at this
      exact this
    have cW1 := cW w2 hb12
    have HB := Lib.hid hb12
    clear hK hown hEn cW cA hb1 hb2 hb12 hbig
    go_wp2_with fail
    all_goals first | (refine cW1.mono ?_) | skip
    rintro e w3 ⟨rfl, hb3⟩
    have HC := Lib.hid (HB.out.trans (hb3.mono HB.out.size))
    clear hb3
    go_wp2_with fail
    go_ret
    exact ⟨rfl, HC.out⟩
end Go.Proofs.YtekoeobfddfgpaaGreatDoor.C
set_option linter.unusedVariables false
set_option linter.unusedSimpArgs false
namespace Go.Proofs.YtekoeobfddfgpaaGreatDoor.C
open Go Go.RowKit Go.Shelf Go.Proofs.YtekoeobfddfgpaaGreatDoor.M Go.Proofs.YtekoeobfddfgpaaGreatDoor.Z Go.Proofs.YtekoeobfddfgpaaGreatDoor.PAll
def BR (w : World) (B : Nat) (v : Value) (bs : List UInt8) : Prop := w.ownsRow B 5 1 v bs.length (bcells bs)
theorem BR.nil (w : World) (B : Nat) : BR w B (.slice none 0 0) [] := ⟨rfl, .inl ⟨rfl, rfl⟩⟩
theorem BR.below {w w' : World} {B : Nat} {v : Value} {bs : List UInt8} (h : BR w B v bs) (hb : Below w.heap.size w w') : BR w' B v bs := owns_obj h (Keeps.of_below0 hb) (fun _ _ h => h)
theorem BR.grown {w w' : World} {B : Nat} {v : Value} {bs : List UInt8} (h : BR w B v bs) (hg : w.grownBy w' v.ownBlock) (hB : B ≤ w.heap.size) : Below B w w' :=
  (Keeps.of_grownBy (Z := fun k => B ≤ k) hg (fun r hr => by
    rcases h.2 with ⟨h, _⟩ | ⟨g1, cp, cur, e, hg, _⟩
    · subst h; cases hr
    · subst e; simp [Value.ownBlock] at hr; omega)).below hB (fun _ h => h)
theorem bcells_ones (bs : List UInt8) : ∀ u ∈ bcells bs, u.oneCell' = true := by
  intro u hu
  obtain ⟨y, _, rfl⟩ := List.mem_map.1 hu
  rfl
theorem wpList_bs {ops : Array Oper} {rest : List Oper} {o : Oper} {a : Act} {w : World} {Q : Exit → Act → World → Prop} (hgd : o.guard = none) (s x : Operand)
    (ho : o.op = .call { callee := .builtin .append, args := #[s, x], argTypes := #[61, 61] }) {B : Nat} {v : Value} {bs ys : List UInt8} (hs : a.eval s = v)
    (hown : BR w B v bs) (hB : B ≤ w.heap.size) (N m c : Nat) (hx : a.eval x = .slice (some ⟨N, 0, none⟩) m c) {cs : Array Value} {fr : Nat × Nat} (hc : w.heap[N]? = some (.cells cs 5 fr)) (hcs : cs.toList = bcells ys) (hm : ys.length = m) (hm0 : 0 < m) (hlen : bs.length + m ≤ 140737488355328)
    (h : ∀ v' w', BR w' B v' (bs ++ ys) → Below B w w' → Keeps (fun k => v.ownBlock = some k) w w' → (∀ g', v'.ownBlock = some g' → v.ownBlock = some g' ∨ w.heap.size ≤ g') → wpList Tryz.prog ops Q rest (a.put o.dst v') w') : wpList Tryz.prog ops Q (o :: rest) a w := by
  obtain ⟨i0, hi, hz0, hz1, hz2⟩ := info_parts Tryz.infoByte
  refine wpList_append_lies _ hgd s x 61 ho B 5 i0 (.int .u8 0) 1 1 Tryz.underlying61 hi hz0 hz1 hz2 rfl (by decide) v bs.length (bcells bs) hs hown ⟨N, 0, none⟩ m c (bcells ys) hx (by simp [bcells, hm]) (by rw [← hcs]; exact World.news_of_block hc) (bcells_ones ys) hm0 (by unfold maxLen; omega) (by omega) hB _ rfl ?_
  intro g cap w' hown' hgrow hlies hg2
  refine h _ w' ?_ (hown.grown hgrow hB) (Keeps.of_grownBy (Z := fun k => v.ownBlock = some k) hgrow (fun r e => e)) (fun g' hg' => by
    have : g = g' := by simpa [Value.ownBlock] using hg'
    subst this
    rcases hlies with e | e
    · exact .inl e
    · right; omega)
  unfold BR
  rw [List.length_append, bcells_append, hm]
  exact hown'
theorem step_bs {ops : Array Oper} {o : Oper} {a : Act} {w : World} {K : Act → World → Prop} {Q : Exit → Act → World → Prop} {E : Prop} (hgd : o.guard = none) (s x : Operand)
    (ho : o.op = .call { callee := .builtin .append, args := #[s, x], argTypes := #[61, 61] }) {B : Nat} {v : Value} {bs ys : List UInt8} (hs : a.eval s = v)
    (hown : BR w B v bs) (hB : B ≤ w.heap.size) (N m c : Nat) (hx : a.eval x = .slice (some ⟨N, 0, none⟩) m c) {cs : Array Value} {fr : Nat × Nat} (hc : w.heap[N]? = some (.cells cs 5 fr)) (hcs : cs.toList = bcells ys) (hm : ys.length = m) (hm0 : 0 < m) (hlen : bs.length + m ≤ 140737488355328)
    (h : ∀ v' w', BR w' B v' (bs ++ ys) → Below B w w' → Keeps (fun k => v.ownBlock = some k) w w' → (∀ g', v'.ownBlock = some g' → v.ownBlock = some g' ∨ w.heap.size ≤ g') → K (a.put o.dst v') w') : if Region.wanted o (yielded ops a.tmps) = true then Oper.wp Tryz.prog o a w K Q else E := by
  obtain ⟨i0, hi, hz0, hz1, hz2⟩ := info_parts Tryz.infoByte
  refine step_append_lies _ hgd s x 61 ho B 5 i0 (.int .u8 0) 1 1 Tryz.underlying61 hi hz0 hz1 hz2 rfl (by decide) v bs.length (bcells bs) hs hown ⟨N, 0, none⟩ m c (bcells ys) hx (by simp [bcells, hm]) (by rw [← hcs]; exact World.news_of_block hc) (bcells_ones ys) hm0 (by unfold maxLen; omega) (by omega) hB _ rfl ?_
  intro g cap w' hown' hgrow hlies hg2
  refine h _ w' ?_ (hown.grown hgrow hB) (Keeps.of_grownBy (Z := fun k => v.ownBlock = some k) hgrow (fun r e => e)) (fun g' hg' => by
    have : g = g' := by simpa [Value.ownBlock] using hg'
    subst this
    rcases hlies with e | e
    · exact .inl e
    · right; omega)
  unfold BR
  rw [List.length_append, bcells_append, hm]
  exact hown'
theorem signs_at : ∀ c : UInt8, glossaryref05_Signs.f 20 (c.toNat : Nat) = some (sgn c) := u8_all (by decide +kernel)
theorem signs_any (c : UInt8) (w : World) : Calls Tryz.prog 67 #[.int .u8 (c.toNat : Nat)] w fun e w' => e = .returned (.bool (sgn c)) ∧ Below w.heap.size w w' :=
  (glossaryref05_Signs.calls 20 (c.toNat : Nat) (sgn c) w (signs_at c)).mono fun e w' ⟨h1, h2⟩ => ⟨h1, h2.below⟩
theorem isPt_pt {t : List UInt8} (h : t ≠ []) : isPt (pt t : Nat) = true := by
  unfold isPt pt
  have h2 := d_facts h
  cases hi : ill t with
  | true =>
    have := ill_b0 h hi
    simp only [if_true]
    rw [Bool.or_eq_true]
    right
    simp; omega
  | false =>
    simp only [Bool.false_eq_true, if_false]
    rw [Bool.or_eq_true]
    left
    unfold Lib.validRune
    have := h2.2.2.2.1
    simp; omega
theorem bytes_unit {t : List UInt8} (h : t ≠ []) (hi : ill t = false) (w : World) :
    Calls Tryz.prog 68 #[.int .i32 (pt t : Nat)] w fun e w' => ∃ g c, e = .returned (.slice (some ⟨g, 0, none⟩) (dw t) c) ∧ w.heap.size ≤ g ∧ g < w'.heap.size ∧ (∀ j u, (t.take (dw t))[j]? = some u → w'.cell? ⟨g, j, none⟩ = some (.int .u8 (u.toNat : Nat))) ∧ Below w.heap.size w w' := by
  have hb := bytes_at (pt t : Nat) (isPt_pt h)
  have hp : pb (pt t : Nat) = t.take (dw t) := by
    rw [pb_pt h, pt_of_ok hi, take_enc h hi]
    unfold pbytes
    rw [if_neg]
    have := okc_dc h
    unfold okc at this
    omega
  rw [hp] at hb
  refine (glossaryref02_Bytes.calls (pt t : Nat) _ w hb).mono ?_
  rintro e w' ⟨v, rfl, hr, hbw⟩
  have hr := R_row hr
  have hl : (nums8 (t.take (dw t))).length = dw t := by rw [nums8_len]; exact take_u h
  have hp := dw_pos h
  obtain ⟨g, cap, hv, hbb, hlt⟩ := hr.form (by omega)
  rw [hl] at hv
  refine ⟨g, cap, by rw [hv], hbb, hlt, fun j u hj => ?_, hbw⟩
  have := hr.cells (g := g) (by rw [hv]; rfl) j (.int .u8 (u.toNat : Nat)) (by unfold nums8; rw [List.getElem?_map, List.getElem?_map, hj]; rfl)
  have hadd : (⟨g, 0, none⟩ : Addr).add j = ⟨g, j, none⟩ := by unfold Addr.add; split <;> simp_all
  rwa [hadd] at this
theorem BR.conv {w : World} {B : Nat} {v : Value} {bs : List UInt8} (h : BR w B v bs) (hne : bs ≠ []) : (convert 61 9 v).run Tryz.prog w = .ok (.string (ba bs)) w := by
  obtain ⟨g, cap, hv, hb, hlt⟩ := h.form (List.length_pos_iff.2 hne)
  have hc := fun j u => h.cells (g := g) (by rw [hv]; rfl) j u
  subst hv
  refine run_convert_bytes_back (P := Tryz.prog) _ _ _ 5 ⟨g, 0, none⟩ cap bs Tryz.underlying61 Tryz.underlying5 Tryz.underlying9 (fun j hj => ?_)
  refine hc j _ ?_
  unfold bcells
  rw [List.getElem?_map, List.getElem?_eq_getElem hj]
  rfl
theorem hex_get : ∀ n, n < 16 → ∀ h, (⟨#[48, 49, 50, 51, 52, 53, 54, 55, 56, 57, 97, 98, 99, 100, 101, 102]⟩ : ByteArray)[n]'h = hexd n := by decide +kernel
theorem pts_at {l : List UInt8} {pre post : List (List UInt8)} {t : List UInt8} (h : sfx l = pre ++ t :: post) : (pts l)[pre.length]? = some ((pt t : Nat) : Int) := by
  unfold pts
  rw [h, List.map_append, List.getElem?_append_right (by simp)]
  simp
theorem pts_length (l : List UInt8) : (pts l).length = (sfx l).length := by unfold pts; rw [List.length_map]
set_option maxHeartbeats 8000000 in
set_option maxRecDepth 100000 in
theorem refq_any (s : ByteArray) (hs : s.size ≤ 1000000000000) (w : World) :
    Calls Tryz.prog 60 #[.string s] w fun e w' => e = .returned (.string (ba (quoteM (bl s)))) ∧ Below w.heap.size w w' := by
  have hbl := bl_len s
  by_cases h0 : s.toList = []
  · have hb0 : bl s = [] := by
      have : s.toList = bl s := by rw [ByteArray.toList_eq]
      rw [← this, h0]
    have hq : ba (quoteM (bl s)) = ⟨#[39, 39]⟩ := by rw [hb0]; rfl
    rw [hq]
    clear hq hb0 hbl
    go_enter Tryz.func60, Tryz.ntmps60
    go_wp2_with fail
    go_ret
    exact ⟨rfl, Below.refl _ _⟩
  · have hb0 : bl s ≠ [] := by
      have : s.toList = bl s := by rw [ByteArray.toList_eq]
      rw [← this]; exact h0
    have hq : quoteM (bl s) = quoteU (sfx (bl s)) := by unfold quoteM; rw [if_neg hb0]
    rw [hq]
    obtain ⟨Q, hQ⟩ : ∃ Q, quoteU (sfx (bl s)) = Q := ⟨_, rfl⟩
    rw [hQ]
    have HQ := Lib.hid hQ
    have h0b : s.toList.isEmpty = false := by cases h : s.toList with
      | nil => exact absurd h h0
      | cons a r => rfl
    obtain ⟨kk, hk⟩ := of_ref s (by omega)
    have cO := glossaryref02_Of.calls kk s _ w hk
    have hsl := sfx_len (bl s)
    obtain ⟨n, hn⟩ : ∃ n, (sfx (bl s)).length = n := ⟨_, rfl⟩
    have hn1 : 1 ≤ n := by rw [← hn, sfx_cons hb0]; simp
    have hnl : n ≤ 1000000000000 := by omega
    have hpl : (pts (bl s)).length = n := by rw [pts_length, hn]
    clear hq hb0 hQ hk
    go_enter Tryz.func60, Tryz.ntmps60
    go_wp2_with fail
    refine cO.mono ?_
    rintro e w1 ⟨v0, rfl, hr, hb1⟩
    obtain ⟨A, c, rfl, hc, hrd⟩ := R_rd hr
    rw [hpl] at hc ⊢
    obtain ⟨ad, rfl, hal, hac⟩ : ∃ x : Addr, A = some x ∧ x.block < w1.heap.size ∧ ∀ j u, (pts (bl s))[j]? = some u → w1.cell? (x.add j) = some (.int .i32 u) := by
      rcases hrd with h0 | h
      · rw [h0] at hpl; simp at hpl; omega
      · exact h
    have Hac := Lib.hid hac
    have HB1 := Lib.hid hb1
    have Hn := Lib.hid hn
    clear hr hrd cO hac hb1 hpl hn hsl
    go_wp2_with fail
    go_loopw [4, 6] (fun ov iv wr => ∃ (pre post : List (List UInt8)), iv = .int .i64 (pre.length : Nat) ∧ Hid (sfx (bl s) = pre ++ post) ∧ Hid (BR wr w1.heap.size ov (quoteU pre)) ∧ Below w1.heap.size w1 wr) (fun _ v _ => n - (intOf v).toNat)
    case atStart => exact ⟨[], sfx (bl s), rfl, by simp [Hid], Lib.hid (BR.nil _ _), Below.refl _ _⟩
    case round =>
      obtain ⟨pre, post, rfl, hpre, HR, hb⟩ := hrel
      have hn := Hn.out
      rw [hpre.out, List.length_append] at hn
      cases post with
      | nil =>
        rw [List.length_nil, Nat.add_zero] at hn
        have hq : quoteU pre = Q := by rw [← HQ.out, hpre.out, List.append_nil]
        have hqn : Q ≠ [] := by
          rw [← hq]
          cases pre with
          | nil => rw [List.length_nil] at hn; omega
          | cons t pre =>
            have ht : t ≠ [] := sfx_ne (l := bl s) (by rw [hpre.out]; simp)
            have := qU_pos ht
            rw [quoteU_cons]
            intro e
            have := congrArg List.length e
            rw [List.length_append, List.length_nil] at this
            omega
        have hcv := HR.out
        rw [hq] at hcv
        have hcv := hcv.conv hqn
        have hni : ¬ (pre.length : Int) < (n : Int) := by omega
        have HBf := Lib.hid (HB1.out.trans (hb.mono HB1.out.size))
        clear hpre hq hqn HR hn hb
        go_wp2_with fail
        go_ret
        exact ⟨rfl, HBf.out⟩
      | cons t post =>
        rw [List.length_cons] at hn
        have hni : (pre.length : Int) < (n : Int) := by omega
        have hcell := (hb.cell (p := ad.add pre.length) (by rw [add_block]; exact hal)).trans (Hac.out _ _ (pts_at hpre.out))
        have hne : t ≠ [] := sfx_ne (l := bl s) (by rw [hpre.out]; simp)
        have hqU : ∃ q, qU t = q := ⟨_, rfl⟩
        obtain ⟨q, hqU⟩ := hqU
        have hql := qU_len hne
        have hq2 := quoteU_snoc pre t
        rw [hqU] at hq2 hql
        have hpre2 : Hid (sfx (bl s) = (pre ++ [t]) ++ post) := Lib.hid (by rw [hpre.out]; simp)
        have hlo : (quoteU pre).length ≤ 6 * pre.length := quoteU_len pre (fun t ht => sfx_ne (l := bl s) (by rw [hpre.out]; simp [ht]))
        have hlo2 : (quoteU pre).length + 6 ≤ 140737488355328 := by omega
        have hms : Hid (n - (pre.length + 1) < n - pre.length) := Lib.hid (by omega)
        obtain ⟨p, hp⟩ : ∃ p, pt t = p := ⟨_, rfl⟩
        rw [hp] at hcell
        have hpU : p ≤ 1200000 := by
          rw [← hp]; unfold pt
          have := u8_lt (t.getD 0 0)
          have h3 : b0 t < 256 := u8_lt _
          have h4 := okc_dc hne
          unfold okc at h4
          split <;> omega
        obtain ⟨b, hbe⟩ : ∃ b, p % 256 = b := ⟨_, rfl⟩
        have g2 : IntKind.u8.wrap (p : Int) = (b : Int) := by rw [IntKind.wrap_u8]; omega
        have g3 : IntKind.i64.wrap (p : Int) = (p : Int) := wrap_in (by omega) (by omega)
        have g4 : IntKind.i32.wrap (p : Int) = (p : Int) := by rw [IntKind.wrap_i32]; omega
        obtain ⟨x, hx⟩ : ∃ x, b / 16 = x := ⟨_, rfl⟩
        obtain ⟨y, hy⟩ : ∃ y, b % 16 = y := ⟨_, rfl⟩
        have hx16 : x < 16 := by omega
        have hy16 : y < 16 := by omega
        have d1 : ((b : Nat) : Int) / 16 = (x : Nat) := by omega
        have d2 : ((b : Nat) : Int) % 16 = (y : Nat) := by omega
        have d3 : Int.tdiv ((b : Nat) : Int) 16 = (x : Nat) := by rw [Int.tdiv_eq_ediv_of_nonneg (by omega)]; omega
        have d4 : Int.tmod ((b : Nat) : Int) 16 = (y : Nat) := by rw [Int.tmod_eq_emod_of_nonneg (by omega)]; omega
        have d5 : (x : Int) < 16 := by omega
        have d6 : (y : Int) < 16 := by omega
        have fx1 : IntKind.u8.wrap (x : Int) = (x : Int) := by rw [IntKind.wrap_u8]; omega
        have fx2 : IntKind.u8.wrap (y : Int) = (y : Int) := by rw [IntKind.wrap_u8]; omega
        have xa : ∀ h, (⟨#[48, 49, 50, 51, 52, 53, 54, 55, 56, 57, 97, 98, 99, 100, 101, 102]⟩ : ByteArray)[x]'h = hexd x := fun h => hex_get x hx16 h
        have ya : ∀ h, (⟨#[48, 49, 50, 51, 52, 53, 54, 55, 56, 57, 97, 98, 99, 100, 101, 102]⟩ : ByteArray)[y]'h = hexd y := fun h => hex_get y hy16 h
        by_cases hill : ill t = true
        · have hb0 : b0 t = b := by
            have h3 : b0 t < 256 := u8_lt _
            unfold pt at hp
            rw [if_pos hill] at hp
            omega
          have g1 : (1114112 : Int) ≤ (p : Int) := by
            unfold pt at hp
            rw [if_pos hill] at hp
            omega
          have hcat : quoteU pre ++ [92, 120, hexd x, hexd y] = quoteU (pre ++ [t]) := by rw [hq2, ← hqU, qU, if_pos hill, hb0, hx, hy]
          clear hbe hpU
          go_wp2_with fail
          go_region_law (refine step_bs rfl (.tmp 56) (.tmp 65) rfl (by simp [Act.eval, Act.put]) (HR.out.below (by exact ((Below.refl _ _).drew).alloc (Nat.le_refl _) _)) (by simp; exact Nat.le_trans hb.size (Nat.le_add_right _ _)) wr.heap.size 4 4 (by simp [Act.eval, Act.put]) (by exact heap_alloc_new wr.drew _) (ys := [92, 120, hexd x, hexd y]) rfl rfl (by decide) (by omega) ?_; intro v2 w2 hR2 hB2 _ _)
          all_goals
            rw [hcat] at hR2
            have HR2 := Lib.hid hR2
            have HB2 := Lib.hid (((hb.drew).alloc hb.size _).trans hB2)
            clear hR2 hB2 HR hb
            go_wp2_with fail
            go_roundw
            case rel => exact ⟨pre ++ [t], post, by rw [List.length_append]; go_num, hpre2, HR2, HB2.out⟩
            case measure => simp [intOf]; exact hms.out
        · have hil : ill t = false := by simpa using hill
          have hpd : dc t = p := by rw [← hp, pt_of_ok hil]
          have hpm : p ≤ 1114111 := by
            have := okc_dc hne
            unfold okc at this
            omega
          have g1 : decide ((1114112 : Int) ≤ (p : Int)) = false := by rw [decide_eq_false_iff_not]; omega
          by_cases h32 : p ≤ 32 ∨ p = 127
          · have hlow := unit_low hne (by omega)
            have hb0 : b0 t = b := by omega
            have hbp : b = p := by omega
            have hr : (p : Int) ≤ 32 ∨ (32 < (p : Int) ∧ ((p : Int) == 127) = true) := by
              by_cases h : p ≤ 32
              · exact .inl (by omega)
              · exact .inr ⟨by omega, by simp; omega⟩
            by_cases h16 : p < 16
            · have g5 : decide ((16 : Int) ≤ (p : Int)) = false := by rw [decide_eq_false_iff_not]; omega
              have hcat : quoteU pre ++ [92, 117, 123] ++ [hexd y, 125] = quoteU (pre ++ [t]) := by
                rw [hq2, ← hqU, qU, if_neg hill, if_pos (by omega), hb0, show b = y by omega, List.append_assoc]; rfl
              clear hbe hpU hlow h32 hpm hp hpd hbp hb0 h16
              have hlo3 := hlo2
              rcases hr with r1 | ⟨r1, r2⟩
              all_goals
                go_wp2_with (at_builtin; first | (refine wpList_bs rfl (.tmp 74) (.tmp 75) rfl (by simp [Act.eval, Act.put]) (HR.out.below (by exact (Below.refl _ _).alloc (Nat.le_refl _) _)) (by simp; exact Nat.le_trans hb.size (Nat.le_add_right _ _)) wr.heap.size 3 3 (by simp [Act.eval, Act.put]) (by exact heap_alloc_new wr _) (ys := [92, 117, 123]) rfl rfl (by decide) (by simp; omega) ?_; intro v2 w2 hR2 hB2 _ _; have hb2 := (hb.alloc hb.size _).trans hB2; clear hB2) | (refine wpList_bs rfl (.tmp 86) (.tmp 91) rfl (by simp [Act.eval, Act.put]) (hR2.below (by exact (Below.refl _ _).alloc (Nat.le_refl _) _)) (by simp; exact Nat.le_trans hb2.size (Nat.le_add_right _ _)) w2.heap.size 2 2 (by simp [Act.eval, Act.put]) (by exact heap_alloc_new w2 _) (ys := [hexd y, 125]) rfl rfl (by decide) (by simp; omega) ?_; intro v3 w3 hR3 hB3 _ _; have hb3 := (hb2.alloc hb2.size _).trans hB3; clear hB3))
                have HRe := Lib.hid (show BR w3 w1.heap.size v3 (quoteU (pre ++ [t])) by rw [← hcat]; exact hR3)
                have HBe := Lib.hid hb3
                clear hR2 hb2 hR3 hb3 HR hb
                go_wp2_with fail
                go_roundw
                case rel => exact ⟨pre ++ [t], post, by rw [List.length_append]; go_num, hpre2, HRe, HBe.out⟩
                case measure => simp [intOf]; exact hms.out
            · have g5 : (16 : Int) ≤ (p : Int) := by omega
              have hcat : quoteU pre ++ [92, 117, 123] ++ [hexd x] ++ [hexd y, 125] = quoteU (pre ++ [t]) := by
                rw [hq2, ← hqU, qU, if_neg hill, if_neg (by omega), if_pos (by omega), hb0, hx, hy, List.append_assoc, List.append_assoc]; rfl
              clear hbe hpU hlow h32 hpm hp hpd hbp hb0 h16
              rcases hr with r1 | ⟨r1, r2⟩
              all_goals
                go_wp2_with (at_builtin; first | (refine wpList_bs rfl (.tmp 74) (.tmp 75) rfl (by simp [Act.eval, Act.put]) (HR.out.below (by exact (Below.refl _ _).alloc (Nat.le_refl _) _)) (by simp; exact Nat.le_trans hb.size (Nat.le_add_right _ _)) wr.heap.size 3 3 (by simp [Act.eval, Act.put]) (by exact heap_alloc_new wr _) (ys := [92, 117, 123]) rfl rfl (by decide) (by simp; omega) ?_; intro v2 w2 hR2 hB2 _ _; have hb2 := (hb.alloc hb.size _).trans hB2; clear hB2) | (refine wpList_bs rfl (.tmp 79) (.tmp 84) rfl (by simp [Act.eval, Act.put]) (hR2.below (by exact (Below.refl _ _).alloc (Nat.le_refl _) _)) (by simp; exact Nat.le_trans hb2.size (Nat.le_add_right _ _)) w2.heap.size 1 1 (by simp [Act.eval, Act.put]) (by exact heap_alloc_new w2 _) (ys := [hexd x]) rfl rfl (by decide) (by simp; omega) ?_; intro v3 w3 hR3 hB3 _ _; have hb3 := (hb2.alloc hb2.size _).trans hB3; clear hB3) | (refine wpList_bs rfl (.tmp 86) (.tmp 91) rfl (by simp [Act.eval, Act.put]) (hR3.below (by exact (Below.refl _ _).alloc (Nat.le_refl _) _)) (by simp; exact Nat.le_trans hb3.size (Nat.le_add_right _ _)) w3.heap.size 2 2 (by simp [Act.eval, Act.put]) (by exact heap_alloc_new w3 _) (ys := [hexd y, 125]) rfl rfl (by decide) (by simp; omega) ?_; intro v4 w4 hR4 hB4 _ _; have hb4 := (hb3.alloc hb3.size _).trans hB4; clear hB4))
                have HRe := Lib.hid (show BR w4 w1.heap.size v4 (quoteU (pre ++ [t])) by rw [← hcat]; exact hR4)
                have HBe := Lib.hid hb4
                clear hR2 hb2 hR3 hb3 hR4 hb4 HR hb
                go_wp2_with fail
                go_roundw
                case rel => exact ⟨pre ++ [t], post, by rw [List.length_append]; go_num, hpre2, HRe, HBe.out⟩
                case measure => simp [intOf]; exact hms.out
          · have r1 : decide ((p : Int) ≤ 32) = false := by rw [decide_eq_false_iff_not]; omega
            have r2 : ((p : Int) == 127) = false := by simp; omega
            obtain ⟨d, hd⟩ : ∃ d, dw t = d := ⟨_, rfl⟩
            obtain ⟨T, hT⟩ : ∃ T, t.take d = T := ⟨_, rfl⟩
            have hTd : T.length = d := by rw [← hT, ← hd]; exact take_u hne
            have hd4 : d ≤ 4 := by rw [← hTd, ← hT, ← hd, take_enc hne hil]; exact (enc_len (okc_dc hne)).2
            have cB := fun W => bytes_unit hne hil W
            rw [hp, hd, hT] at cB
            have hqv : q = (if p < 128 ∧ sgn (t.getD 0 0) = true then 92 :: T else T) := by
              rw [← hqU, qU, if_neg hill, if_neg (by omega), if_neg (by omega), hpd, hd, hT]
            by_cases h128 : p < 128
            · have hlow := unit_low hne (by omega)
              have hcb : (t.getD 0 0).toNat = b := by
                have : b0 t = (t.getD 0 0).toNat := rfl
                omega
              have cG := fun W => signs_any (t.getD 0 0) W
              rw [hcb] at cG
              have t1 : (p : Int) < 128 := by omega
              obtain ⟨sg, hsg⟩ : ∃ sg, sgn (t.getD 0 0) = sg := ⟨_, rfl⟩
              rw [hsg] at cG hqv
              obtain ⟨base, hbase⟩ : ∃ base, (if sg = true then quoteU pre ++ [92] else quoteU pre) = base := ⟨_, rfl⟩
              have hcat : base ++ T = quoteU (pre ++ [t]) := by
                rw [hq2, hqv, ← hbase]
                cases sg <;> simp [h128]
              have hbl : base.length + 5 ≤ 140737488355322 := by rw [← hbase]; split <;> simp <;> omega
              clear hbe hpU hlow h32 hpm hp hpd h128 hcb hqv hT hd hsg
              cases sg with
              | true =>
                simp only [if_true] at hbase
                go_wp2_with fail
                refine (cG _).mono ?_
                rintro e w9 ⟨rfl, hb9⟩
                go_wp2_with (at_builtin; first | (refine wpList_bs rfl (.tmp 34) (.tmp 35) rfl (by simp [Act.eval, Act.put]) ((HR.out.below hb9).below (by exact (Below.refl _ _).alloc (Nat.le_refl _) _)) (by simp; exact Nat.le_trans (hb.trans (hb9.mono hb.size)).size (Nat.le_add_right _ _)) w9.heap.size 1 1 (by simp [Act.eval, Act.put]) (by exact heap_alloc_new w9 _) (ys := [92]) rfl rfl (by decide) (by simp; omega) ?_; intro v2 w2 hR2 hB2 _ _; have hb2 := ((hb.trans (hb9.mono hb.size)).alloc (hb.trans (hb9.mono hb.size)).size _).trans hB2; clear hB2))
                rw [hbase] at hR2
                have HRx := Lib.hid hR2
                have hbx := hb2
                clear hR2 hb2 HR hb cG hb9
                go_wp2_with fail
                refine (cB _).mono ?_
                rintro e w5 ⟨g, cc, rfl, hg1, hg2, hcl, hb5⟩
                have HR5 := Lib.hid (HRx.out.below hb5)
                have hb15 := hbx.trans (hb5.mono hbx.size)
                have hlt5 := fun g' hg' => HRx.out.lt g' hg'
                clear cB hb5 HRx hbx
                go_wp2_with fail
                go_loopw [4, 10] (fun ov kv wr2 => ∃ k : Nat, kv = .int .i64 k ∧ k ≤ d ∧ Hid (BR wr2 w1.heap.size ov (base ++ T.take k)) ∧ Hid (Below w1.heap.size w1 wr2) ∧ Hid (∀ j u, T[j]? = some u → wr2.cell? ⟨g, j, none⟩ = some (.int .u8 (u.toNat : Nat))) ∧ g < wr2.heap.size ∧ (∀ g', ov.ownBlock = some g' → g' ≠ g)) (fun _ v _ => d - (intOf v).toNat)
                case atStart => exact ⟨0, rfl, Nat.zero_le _, Lib.hid (by rw [List.take_zero, List.append_nil]; exact HR5.out), Lib.hid hb15, Lib.hid hcl, hg2, fun g' hg' => by have := (hlt5 g' hg').2; omega⟩
                case round =>
                  obtain ⟨k, rfl, hkd, HR6, hb6, hcl6, hg6, hne6⟩ := hrel
                  have hb6' := hb6.out
                  by_cases hk : k < d
                  · obtain ⟨u, hu⟩ : ∃ u, T[k]? = some u := ⟨_, List.getElem?_eq_getElem (by omega)⟩
                    have hki : (k : Int) < (d : Int) := by omega
                    have hc6 := hcl6.out k u hu
                    have htk : base ++ T.take (k + 1) = base ++ T.take k ++ [u] := by rw [List.take_add_one, hu, List.append_assoc]; rfl
                    have hbl6 : (base ++ T.take k).length ≤ 140737488355322 := by rw [List.length_append, List.length_take]; omega
                    obtain ⟨bk, hbk⟩ : ∃ bk, base ++ T.take k = bk := ⟨_, rfl⟩
                    rw [hbk] at htk hbl6 HR6
                    clear hcl hb15 HR5 hlt5 hg1 hg2 hu
                    go_wp2_with (at_builtin; refine wpList_bs rfl (.tmp 46) (.tmp 51) rfl (by simp [Act.eval, Act.put]) (HR6.out.below (by exact (Below.refl _ _).alloc (Nat.le_refl _) _)) (by simp; exact Nat.le_trans hb6'.size (Nat.le_add_right _ _)) wr.heap.size 1 1 (by simp [Act.eval, Act.put]) (by exact heap_alloc_new wr _) (ys := [u]) rfl rfl (by decide) (by omega) ?_; intro v7 w7 hR7 hB7 hk7 ho7)
                    have hk67 := (Keeps.alloc (Z := fun k => Value.ownBlock _ = some k) wr _).trans hk7 (fun _ _ e => e)
                    have hcl7 := Lib.hid (fun j u hj => hk67.cell (hcl6.out j u hj) (fun e => hne6 _ e rfl))
                    have HR7 := Lib.hid (show BR w7 w1.heap.size v7 (base ++ T.take (k + 1)) by rw [htk]; exact hR7)
                    have HB7 := Lib.hid ((hb6'.alloc hb6'.size _).trans hB7)
                    have hg7 : g < w7.heap.size := Nat.lt_of_lt_of_le hg6 hk67.size
                    have ho7' : ∀ g', v7.ownBlock = some g' → g' ≠ g := fun g' hg' => (ho7 g' hg').elim (hne6 g') (fun e => by simp at e; omega)
                    clear hR7 hB7 hk7 ho7 hk67 HR6 hb6 hb6' hcl6 hne6 hc6
                    go_wp2_with fail
                    go_roundw
                    case rel => exact ⟨k + 1, by go_num, hk, HR7, HB7, hcl7, hg7, ho7'⟩
                    case measure => simp [intOf]; omega
                  · have hkd2 : k = d := by omega
                    subst hkd2
                    have HRe := HR6.out
                    rw [List.take_of_length_le (by omega), hcat] at HRe
                    have HRe := Lib.hid HRe
                    have hki : ¬ (k : Int) < (k : Int) := by omega
                    clear hcl hb15 HR5 hlt5 hg1 hg2 HR6 hcl6 hne6 hk
                    go_wp2_with fail
                    go_roundw
                    case rel => exact ⟨pre ++ [t], post, by rw [List.length_append]; go_num, hpre2, HRe, hb6'⟩
                    case measure => simp [intOf]; exact hms.out
              | false =>
                simp only [Bool.false_eq_true, if_false] at hbase
                go_wp2_with fail
                refine (cG _).mono ?_
                rintro e w9 ⟨rfl, hb9⟩
                have HRx := HR.out.below hb9
                rw [hbase] at HRx
                have HRx := Lib.hid HRx
                have hbx := hb.trans (hb9.mono hb.size)
                clear HR hb cG hb9
                go_wp2_with fail
                refine (cB _).mono ?_
                rintro e w5 ⟨g, cc, rfl, hg1, hg2, hcl, hb5⟩
                have HR5 := Lib.hid (HRx.out.below hb5)
                have hb15 := hbx.trans (hb5.mono hbx.size)
                have hlt5 := fun g' hg' => HRx.out.lt g' hg'
                clear cB hb5 HRx hbx
                go_wp2_with fail
                go_loopw [4, 10] (fun ov kv wr2 => ∃ k : Nat, kv = .int .i64 k ∧ k ≤ d ∧ Hid (BR wr2 w1.heap.size ov (base ++ T.take k)) ∧ Hid (Below w1.heap.size w1 wr2) ∧ Hid (∀ j u, T[j]? = some u → wr2.cell? ⟨g, j, none⟩ = some (.int .u8 (u.toNat : Nat))) ∧ g < wr2.heap.size ∧ (∀ g', ov.ownBlock = some g' → g' ≠ g)) (fun _ v _ => d - (intOf v).toNat)
                case atStart => exact ⟨0, rfl, Nat.zero_le _, Lib.hid (by rw [List.take_zero, List.append_nil]; exact HR5.out), Lib.hid hb15, Lib.hid hcl, hg2, fun g' hg' => by have := (hlt5 g' hg').2; omega⟩
                case round =>
                  obtain ⟨k, rfl, hkd, HR6, hb6, hcl6, hg6, hne6⟩ := hrel
                  have hb6' := hb6.out
                  by_cases hk : k < d
                  · obtain ⟨u, hu⟩ : ∃ u, T[k]? = some u := ⟨_, List.getElem?_eq_getElem (by omega)⟩
                    have hki : (k : Int) < (d : Int) := by omega
                    have hc6 := hcl6.out k u hu
                    have htk : base ++ T.take (k + 1) = base ++ T.take k ++ [u] := by rw [List.take_add_one, hu, List.append_assoc]; rfl
                    have hbl6 : (base ++ T.take k).length ≤ 140737488355322 := by rw [List.length_append, List.length_take]; omega
                    obtain ⟨bk, hbk⟩ : ∃ bk, base ++ T.take k = bk := ⟨_, rfl⟩
                    rw [hbk] at htk hbl6 HR6
                    clear hcl hb15 HR5 hlt5 hg1 hg2 hu
                    go_wp2_with (at_builtin; refine wpList_bs rfl (.tmp 46) (.tmp 51) rfl (by simp [Act.eval, Act.put]) (HR6.out.below (by exact (Below.refl _ _).alloc (Nat.le_refl _) _)) (by simp; exact Nat.le_trans hb6'.size (Nat.le_add_right _ _)) wr.heap.size 1 1 (by simp [Act.eval, Act.put]) (by exact heap_alloc_new wr _) (ys := [u]) rfl rfl (by decide) (by omega) ?_; intro v7 w7 hR7 hB7 hk7 ho7)
                    have hk67 := (Keeps.alloc (Z := fun k => Value.ownBlock _ = some k) wr _).trans hk7 (fun _ _ e => e)
                    have hcl7 := Lib.hid (fun j u hj => hk67.cell (hcl6.out j u hj) (fun e => hne6 _ e rfl))
                    have HR7 := Lib.hid (show BR w7 w1.heap.size v7 (base ++ T.take (k + 1)) by rw [htk]; exact hR7)
                    have HB7 := Lib.hid ((hb6'.alloc hb6'.size _).trans hB7)
                    have hg7 : g < w7.heap.size := Nat.lt_of_lt_of_le hg6 hk67.size
                    have ho7' : ∀ g', v7.ownBlock = some g' → g' ≠ g := fun g' hg' => (ho7 g' hg').elim (hne6 g') (fun e => by simp at e; omega)
                    clear hR7 hB7 hk7 ho7 hk67 HR6 hb6 hb6' hcl6 hne6 hc6
                    go_wp2_with fail
                    go_roundw
                    case rel => exact ⟨k + 1, by go_num, hk, HR7, HB7, hcl7, hg7, ho7'⟩
                    case measure => simp [intOf]; omega
                  · have hkd2 : k = d := by omega
                    subst hkd2
                    have HRe := HR6.out
                    rw [List.take_of_length_le (by omega), hcat] at HRe
                    have HRe := Lib.hid HRe
                    have hki : ¬ (k : Int) < (k : Int) := by omega
                    clear hcl hb15 HR5 hlt5 hg1 hg2 HR6 hcl6 hne6 hk
                    go_wp2_with fail
                    go_roundw
                    case rel => exact ⟨pre ++ [t], post, by rw [List.length_append]; go_num, hpre2, HRe, hb6'⟩
                    case measure => simp [intOf]; exact hms.out
            · have t1 : decide ((p : Int) < 128) = false := by rw [decide_eq_false_iff_not]; omega
              obtain ⟨base, hbase⟩ : ∃ base, quoteU pre = base := ⟨_, rfl⟩
              have hcat : base ++ T = quoteU (pre ++ [t]) := by
                rw [hq2, hqv, ← hbase, if_neg (by omega)]
              have hbl : base.length + 5 ≤ 140737488355322 := by rw [← hbase]; omega
              have HRx := HR.out
              rw [hbase] at HRx
              have HRx := Lib.hid HRx
              have hbx := hb
              clear hbe hpU h32 hpm hp hpd h128 hqv hT hd HR hb
              go_wp2_with fail
              refine (cB _).mono ?_
              rintro e w5 ⟨g, cc, rfl, hg1, hg2, hcl, hb5⟩
              have HR5 := Lib.hid (HRx.out.below hb5)
              have hb15 := hbx.trans (hb5.mono hbx.size)
              have hlt5 := fun g' hg' => HRx.out.lt g' hg'
              clear cB hb5 HRx hbx
              go_wp2_with fail
              go_loopw [4, 10] (fun ov kv wr2 => ∃ k : Nat, kv = .int .i64 k ∧ k ≤ d ∧ Hid (BR wr2 w1.heap.size ov (base ++ T.take k)) ∧ Hid (Below w1.heap.size w1 wr2) ∧ Hid (∀ j u, T[j]? = some u → wr2.cell? ⟨g, j, none⟩ = some (.int .u8 (u.toNat : Nat))) ∧ g < wr2.heap.size ∧ (∀ g', ov.ownBlock = some g' → g' ≠ g)) (fun _ v _ => d - (intOf v).toNat)
              case atStart => exact ⟨0, rfl, Nat.zero_le _, Lib.hid (by rw [List.take_zero, List.append_nil]; exact HR5.out), Lib.hid hb15, Lib.hid hcl, hg2, fun g' hg' => by have := (hlt5 g' hg').2; omega⟩
              case round =>
                obtain ⟨k, rfl, hkd, HR6, hb6, hcl6, hg6, hne6⟩ := hrel
                have hb6' := hb6.out
                by_cases hk : k < d
                · obtain ⟨u, hu⟩ : ∃ u, T[k]? = some u := ⟨_, List.getElem?_eq_getElem (by omega)⟩
                  have hki : (k : Int) < (d : Int) := by omega
                  have hc6 := hcl6.out k u hu
                  have htk : base ++ T.take (k + 1) = base ++ T.take k ++ [u] := by rw [List.take_add_one, hu, List.append_assoc]; rfl
                  have hbl6 : (base ++ T.take k).length ≤ 140737488355322 := by rw [List.length_append, List.length_take]; omega
                  obtain ⟨bk, hbk⟩ : ∃ bk, base ++ T.take k = bk := ⟨_, rfl⟩
                  rw [hbk] at htk hbl6 HR6
                  clear hcl hb15 HR5 hlt5 hg1 hg2 hu
                  go_wp2_with (at_builtin; refine wpList_bs rfl (.tmp 46) (.tmp 51) rfl (by simp [Act.eval, Act.put]) (HR6.out.below (by exact (Below.refl _ _).alloc (Nat.le_refl _) _)) (by simp; exact Nat.le_trans hb6'.size (Nat.le_add_right _ _)) wr.heap.size 1 1 (by simp [Act.eval, Act.put]) (by exact heap_alloc_new wr _) (ys := [u]) rfl rfl (by decide) (by omega) ?_; intro v7 w7 hR7 hB7 hk7 ho7)
                  have hk67 := (Keeps.alloc (Z := fun k => Value.ownBlock _ = some k) wr _).trans hk7 (fun _ _ e => e)
                  have hcl7 := Lib.hid (fun j u hj => hk67.cell (hcl6.out j u hj) (fun e => hne6 _ e rfl))
                  have HR7 := Lib.hid (show BR w7 w1.heap.size v7 (base ++ T.take (k + 1)) by rw [htk]; exact hR7)
                  have HB7 := Lib.hid ((hb6'.alloc hb6'.size _).trans hB7)
                  have hg7 : g < w7.heap.size := Nat.lt_of_lt_of_le hg6 hk67.size
                  have ho7' : ∀ g', v7.ownBlock = some g' → g' ≠ g := fun g' hg' => (ho7 g' hg').elim (hne6 g') (fun e => by simp at e; omega)
                  clear hR7 hB7 hk7 ho7 hk67 HR6 hb6 hb6' hcl6 hne6 hc6
                  go_wp2_with fail
                  go_roundw
                  case rel => exact ⟨k + 1, by go_num, hk, HR7, HB7, hcl7, hg7, ho7'⟩
                  case measure => simp [intOf]; omega
                · have hkd2 : k = d := by omega
                  subst hkd2
                  have HRe := HR6.out
                  rw [List.take_of_length_le (by omega), hcat] at HRe
                  have HRe := Lib.hid HRe
                  have hki : ¬ (k : Int) < (k : Int) := by omega
                  clear hcl hb15 HR5 hlt5 hg1 hg2 HR6 hcl6 hne6 hk
                  go_wp2_with fail
                  go_roundw
                  case rel => exact ⟨pre ++ [t], post, by rw [List.length_append]; go_num, hpre2, HRe, hb6'⟩
                  case measure => simp [intOf]; exact hms.out
end Go.Proofs.YtekoeobfddfgpaaGreatDoor.C
set_option linter.unusedVariables false
set_option linter.unusedSimpArgs false
namespace Go.Proofs.YtekoeobfddfgpaaGreatDoor.C
open Go Go.RowKit Go.Shelf Go.Proofs.YtekoeobfddfgpaaGreatDoor.M Go.Proofs.YtekoeobfddfgpaaGreatDoor.Z
set_option maxHeartbeats 4000000 in
set_option maxRecDepth 100000 in
theorem quotelaw_any (w : World) (hT : Lib.Utf8Tabs 2 3 w) (hE : HE w) (s : ByteArray) (hs : s.size ≤ 1000000000000) :
    Calls Tryz.prog 27 #[.string s] w fun e w' => e = .returned (.bool true) ∧ Below w.heap.size w w' := by
  have hL : Laid w := ⟨hT, hE⟩
  clear hE
  have cQ := quote_any s hs w hT
  have cR := fun W => refq_any s hs W
  obtain ⟨t, ht⟩ : ∃ t, ba (quoteM (bl s)) = t := ⟨_, rfl⟩
  rw [ht] at cQ cR
  have cW : ∀ W, Below w.heap.size w W → Calls Tryz.prog 6 #[] W fun e w' => e = .returned (.bool true) ∧ Below W.heap.size W w' := fun W hb => works_any W (hL.below hb).1 (hL.below hb).2
  clear hL hT ht
  go_enter Tryz.func27, Tryz.ntmps27
  go_wp2_with fail
  refine cQ.mono ?_
  rintro e w1 ⟨rfl, hb1⟩
  clear cQ
  go_wp2_with fail
  refine (cR _).mono ?_
  rintro e w2 ⟨rfl, hb2⟩
  have hb12 := hb1.trans (hb2.mono hb1.size)
  have cW2 := cW w2 hb12
  have HB := Lib.hid hb12
  clear cR cW hb1 hb2 hb12
  go_wp2_with fail
  refine cW2.mono ?_
  rintro e w3 ⟨rfl, hb3⟩
  have HC := Lib.hid (HB.out.trans (hb3.mono HB.out.size))
  clear hb3
  go_wp2_with fail
  go_ret
  exact ⟨rfl, HC.out⟩
end Go.Proofs.YtekoeobfddfgpaaGreatDoor.C
