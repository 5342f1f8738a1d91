/-
  The document's answers of glossaryref01, as printed, in plain words: Bad, Mend. The statement UtfMends, walked.
-/
import Derived.Test.YtbkimhbpcmbflaaDoorQ1
import Derived.Test.YtbkimhbpcmbflaaDoorUU
set_option linter.unusedVariables false
set_option linter.unusedSimpArgs false
set_option maxRecDepth 100000
namespace Go.Proofs.YtbkimhbpcmbflaaDoor.C
open Go Go.RowKit Go.Proofs.YtbkimhbpcmbflaaDoor.M Go.Proofs.YtbkimhbpcmbflaaDoor.PAll Go.Proofs.YtbkimhbpcmbflaaDoorW.PrintWords

/-- a piece, as the document's answer has it -/
def s46 (l : List UInt8) (x : List UInt8 × Nat) : S46 := ⟨((l.length - x.1.length : Nat) : Int), ((x.2 : Nat) : Int)⟩
theorem bad_l0 (s : ByteArray) (hs : s.size ≤ 1048576) : ∀ n p k : Nat, s.size ≤ p + n → p ≤ s.size → n + 5 ≤ k → ∀ acc : List S46, acc.length ≤ p →
    glossaryref01_Bad.l0 k s acc p = some (acc ++ (pieces ((bl s).drop p)).map (s46 (bl s))) := by
  intro n
  induction n with
  | zero =>
    intro p k h1 h2 hk acc _
    obtain ⟨k, rfl⟩ : ∃ m, k = m + 1 := ⟨k - 1, by omega⟩
    simp only [glossaryref01_Bad.l0]
    rw [if_neg (by omega), List.drop_of_length_le (by rw [bl_len]; omega), pieces_nil]; simp
  | succ n ih =>
    intro p k h1 h2 hk acc hacc
    by_cases hp : p < s.size
    · obtain ⟨k, rfl⟩ : ∃ m, k = m + 1 := ⟨k - 1, by omega⟩
      obtain ⟨t, ht⟩ : ∃ t, (bl s).drop p = t := ⟨_, rfl⟩
      have hne : t ≠ [] := by rw [← ht]; exact bl_nonempty hp
      have htl : t.length = s.size - p := by rw [← ht, List.length_drop, bl_len]
      have hb := begun_ref s (by omega) p hp k (by omega)
      simp only [glossaryref01_Bad.l0]
      rw [if_pos (by omega), hb]
      simp only [Option.bind_some]
      rw [ht]
      have hnb := nb_le t
      have hbn := bg_nb t
      have hpl : pl t ≤ t.length := pl_len hne
      have hpp := pl_pos t
      have hmx : Hid (mx ((bg t : Nat) : Int) 1 = ((pl t : Nat) : Int)) := by show _ = _; unfold mx pl; split <;> omega
      have hw : Hid (wrap64 ((p : Int) + ((pl t : Nat) : Int)) = ((p + pl t : Nat) : Int)) := by show _ = _; rw [w64 (by omega) (by omega)]; omega
      have hpiece : ill t = true → glossaryref01_Bad.l0 k s (acc ++ [(⟨(p : Int), mx ((bg t : Nat) : Int) 1⟩ : S46)]) (wrap64 ((p : Int) + mx ((bg t : Nat) : Int) 1)) = some (acc ++ (pieces t).map (s46 (bl s))) := fun hi => by
        have hih := ih (p + pl t) k (by omega) (by omega) (by omega) (acc ++ [(⟨(p : Int), ((pl t : Nat) : Int)⟩ : S46)]) (by rw [List.length_append, List.length_singleton]; omega)
        have e : s46 (bl s) (t, pl t) = ⟨(p : Int), ((pl t : Nat) : Int)⟩ := by
          have e1 : (bl s).length - t.length = p := by rw [htl, bl_len]; omega
          unfold s46
          simp only
          rw [e1]
        have e2 : (bl s).drop (p + pl t) = t.drop (pl t) := by rw [← ht, List.drop_drop]
        rw [hmx.out, hw.out, hih, pieces_ill hne hi, List.map_cons, e, List.append_assoc, List.singleton_append, e2]
      rcases ill_or hne with ⟨hi, hx, _⟩ | ⟨hi, hx, hn1, hd, _⟩
      · have hp3 := hpiece hi
        by_cases hbb : bg t = nb t
        · rw [if_pos (by omega), if_neg (by omega), if_pos (by omega)]
          exact hp3
        · rw [if_neg (by omega), if_pos (by omega)]
          exact hp3
      · have hwl := dw_len hne
        have hw2 : Hid (wrap64 ((p : Int) + ((nb t : Nat) : Int)) = ((p + dw t : Nat) : Int)) := by show _ = _; rw [w64 (by omega) (by omega)]; omega
        rw [if_pos (by omega), if_pos (by omega), hw2.out, ih (p + dw t) k (by omega) (by omega) (by omega) acc (by omega), pieces_ok hne hi, ← ht, List.drop_drop]
    · obtain ⟨k, rfl⟩ : ∃ m, k = m + 1 := ⟨k - 1, by omega⟩
      simp only [glossaryref01_Bad.l0]
      rw [if_neg (by omega), List.drop_of_length_le (by rw [bl_len]; omega), pieces_nil]; simp
theorem bad_ref (s : ByteArray) (hs : s.size ≤ 1048576) : ∀ k, s.size + 5 ≤ k → glossaryref01_Bad.f k s = some ((pieces (bl s)).map (s46 (bl s))) := by
  intro k hk
  unfold glossaryref01_Bad.f
  have := bad_l0 s hs s.size 0 k (by omega) (by omega) (by omega) [] (by simp)
  rw [List.drop_zero] at this
  exact this
theorem mend_l1 (s t : ByteArray) (whole : Bool) (ps : List S46) (i : Nat) (hi : i < ps.length) (cnt : Nat) (hc : cnt ≤ 3) : ∀ (m c k : Nat) (o : List UInt8), c + m = cnt → o.length + m * t.size < 140737488355328 →
    glossaryref01_Mend.l1 (k + m + 1) s t whole (nums8 o) ps i cnt c = glossaryref01_Mend.l0 k s t whole (nums8 (o ++ Lib.repeatL (bl t) m)) ps (wrap64 ((rd_T46 ps i).f0 + (rd_T46 ps i).f1)) (wrap64 ((i : Int) + 1)) := by
  intro m
  induction m with
  | zero =>
    intro c k o h1 h2
    simp only [glossaryref01_Mend.l1]
    rw [if_neg (by omega), if_pos (by omega), if_pos (by omega)]
    simp [Lib.repeatL]
  | succ m ih =>
    intro c k o h1 h2
    have hb : bytesOf t = nums8 (bl t) := rfl
    have e : (m + 1) * t.size = m * t.size + t.size := by rw [Nat.add_mul, Nat.one_mul]
    have hw : wrap64 ((c : Int) + 1) = ((c + 1 : Nat) : Int) := by rw [w64 (by omega) (by omega)]; omega
    have hl : (nums8 o).length = o.length := nums8_len o
    have hih := ih (c + 1) k (o ++ bl t) (by omega) (by rw [List.length_append, bl_len]; omega)
    rw [List.append_assoc, show bl t ++ Lib.repeatL (bl t) m = Lib.repeatL (bl t) (m + 1) from rfl] at hih
    rw [← hih, show k + (m + 1) + 1 = (k + m + 1) + 1 by omega]
    generalize k + m + 1 = K
    simp only [glossaryref01_Mend.l1]
    rw [if_pos (by omega), if_pos (by omega), hb, ← nums8_append, hw]
def mfuel : List (List UInt8 × Nat) → Nat
  | [] => 1
  | x :: xs => 8 + mfuel xs
theorem mend_l0 (s t : ByteArray) (whole : Bool) (hs : s.size ≤ 1048576) (hlen : s.size + s.size * (3 * t.size) < 140737488355328) : ∀ (rest pre : List (List UInt8 × Nat)) (k : Nat), pieces (bl s) = pre ++ rest → mfuel rest ≤ k →
    glossaryref01_Mend.l0 k s t whole (nums8 (mfold (bl s) (repB t whole) pre).1) ((pieces (bl s)).map (s46 (bl s))) ((mfold (bl s) (repB t whole) pre).2 : Nat) (pre.length : Nat) = some ⟨(mend (bl s) (repB t whole)).toArray⟩ := by
  have hbl := bl_len s
  intro rest
  induction rest with
  | nil =>
    intro pre k hpre hk
    rw [List.append_nil] at hpre
    obtain ⟨k, rfl⟩ : ∃ m, k = m + 1 := ⟨k - 1, by unfold mfuel at hk; omega⟩
    obtain ⟨h1, h2⟩ := mfold_len (repB_len t whole) pre (by rw [hpre]; exact ⟨[], by simp⟩)
    have h3 := h2.le
    rw [hbl] at h3
    have hcnt := pieces_count (bl s)
    rw [hbl, hpre] at hcnt
    have hmm : pre.length * (3 * t.size) ≤ s.size * (3 * t.size) := Nat.mul_le_mul_right _ hcnt
    have hb : bytesOf (s.extract (mfold (bl s) (repB t whole) pre).2 s.size) = nums8 ((bl s).drop (mfold (bl s) (repB t whole) pre).2) := by
      show nums8 (bl _) = _; rw [bl_extract]
    simp only [glossaryref01_Mend.l0]
    rw [if_neg (by rw [List.length_map, hpre]; omega), if_pos (by omega), if_pos (by omega), Int.toNat_natCast, if_pos (by rw [nums8_len]; simp; omega), hb, ← nums8_append, str_nums8]
    unfold mend
    rw [hpre]
  | cons x rest ih =>
    intro pre k hpre hk
    have hp2 : (pre ++ [x]) <+: pieces (bl s) := ⟨rest, by rw [hpre]; simp⟩
    have hp1 : pre <+: pieces (bl s) := ⟨x :: rest, hpre.symm⟩
    obtain ⟨h1, h2⟩ := mfold_len (repB_len t whole) pre hp1
    obtain ⟨n1, n2, n3, n4, n5, n6, _⟩ := h2.next hp2
    have hx3 : x.2 ≤ 3 := by rw [n6]; exact pieces_three _ x (hp2.subset (by simp))
    have hx1 : 1 ≤ x.2 := by rw [n6]; exact pl_pos _
    have h3 := h2.le
    rw [hbl] at h3 n2 n3
    have hcnt := pieces_count (bl s)
    rw [hbl, hpre, List.length_append, List.length_cons] at hcnt
    have hmm : (pre.length + 1) * (3 * t.size) ≤ s.size * (3 * t.size) := Nat.mul_le_mul_right _ (by omega)
    rw [Nat.add_mul, Nat.one_mul] at hmm
    have hrd : rd_T46 ((pieces (bl s)).map (s46 (bl s))) ((pre.length : Nat) : Int) = s46 (bl s) x := by
      unfold rd_T46
      rw [Int.toNat_natCast, List.getD_eq_getElem?_getD, List.getElem?_map, hpre, List.getElem?_append_right (Nat.le_refl _)]
      simp
    have hf : (s46 (bl s) x).f0 = ((s.size - x.1.length : Nat) : Int) := by unfold s46; rw [hbl]
    have hg : (s46 (bl s) x).f1 = ((x.2 : Nat) : Int) := rfl
    have hlenp : (((pieces (bl s)).map (s46 (bl s))).length : Nat) = (pieces (bl s)).length := List.length_map _
    have hil : pre.length < ((pieces (bl s)).map (s46 (bl s))).length := by rw [hlenp, hpre]; simp
    have hnext := ih (pre ++ [x])
    rw [mfold_snoc] at hnext
    obtain ⟨o, ho⟩ : ∃ o, (mfold (bl s) (repB t whole) pre).1 = o := ⟨_, rfl⟩
    obtain ⟨a, ha⟩ : ∃ a, (mfold (bl s) (repB t whole) pre).2 = a := ⟨_, rfl⟩
    rw [ho, ha] at h1 ⊢
    rw [ha] at h3 n2
    simp only [mstep] at hnext
    rw [ho, ha, hbl] at hnext
    obtain ⟨f, hff⟩ : ∃ f, s.size - x.1.length = f := ⟨_, rfl⟩
    rw [hff] at hf hnext n2
    have hb : bytesOf (s.extract a f) = nums8 (((bl s).take f).drop a) := by
      show nums8 (bl _) = _; rw [bl_cut (by omega)]
    have hsz : (s.extract a f).size = f - a := by simp; omega
    have hol : (o ++ ((bl s).take f).drop a).length = o.length + (f - a) := by rw [List.length_append, List.length_drop, List.length_take, hbl]; omega
    have hwf : Hid (wrap64 ((f : Int) + ((x.2 : Nat) : Int)) = ((f + x.2 : Nat) : Int)) := by show _ = _; rw [w64 (by omega) (by omega)]; omega
    have hwi : Hid (wrap64 ((pre.length : Int) + 1) = (((pre ++ [x]).length : Nat) : Int)) := by show _ = _; rw [w64 (by omega) (by omega), List.length_append]; simp
    have hfin : ∀ k', mfuel rest ≤ k' → glossaryref01_Mend.l0 k' s t whole (nums8 (o ++ ((bl s).take f).drop a ++ repB t whole x.2)) ((pieces (bl s)).map (s46 (bl s))) ((f + x.2 : Nat) : Int) (((pre ++ [x]).length : Nat) : Int) = some ⟨(mend (bl s) (repB t whole)).toArray⟩ := fun k' hk' => by
      have := hnext k' (by rw [hpre]; simp) hk'
      rw [List.append_assoc]
      exact this
    have hm3 : x.2 * t.size ≤ 3 * t.size := Nat.mul_le_mul_right _ hx3
    obtain ⟨k, rfl⟩ : ∃ m, k = m + 1 + 1 := ⟨k - 2, by simp only [mfuel] at hk; omega⟩
    simp only [mfuel] at hk
    simp only [glossaryref01_Mend.l0]
    rw [if_pos (by omega), if_pos (by omega), if_pos (by omega), hrd, hf, if_pos (by omega), if_pos (by omega), Int.toNat_natCast, Int.toNat_natCast, if_pos (by rw [nums8_len, hsz]; omega), hb, ← nums8_append]
    simp only [Option.bind_some]
    cases whole with
    | true =>
      rw [if_pos rfl]
      simp only [glossaryref01_Mend.j1]
      have hl1 := mend_l1 s t true ((pieces (bl s)).map (s46 (bl s))) pre.length hil 1 (by omega) 1 0 (k - 2) (o ++ ((bl s).take f).drop a) rfl (by rw [hol]; omega)
      rw [hrd, hf, hg, hwf.out, hwi.out, show k - 2 + 1 + 1 = k by omega] at hl1
      have er : Lib.repeatL (bl t) 1 = repB t true x.2 := by show bl t ++ [] = bl t; simp
      rw [er, hfin (k - 2) (by omega)] at hl1
      exact hl1
    | false =>
      rw [if_neg (by decide), hg]
      simp only [glossaryref01_Mend.j1]
      have hl1 := mend_l1 s t false ((pieces (bl s)).map (s46 (bl s))) pre.length hil x.2 hx3 x.2 0 (k - x.2 - 1) (o ++ ((bl s).take f).drop a) (by omega) (by rw [hol]; omega)
      rw [hrd, hf, hg, hwf.out, hwi.out, show k - x.2 - 1 + x.2 + 1 = k by omega] at hl1
      have er : Lib.repeatL (bl t) x.2 = repB t false x.2 := rfl
      rw [er, hfin (k - x.2 - 1) (by omega)] at hl1
      exact hl1
theorem mend_ref (s t : ByteArray) (whole : Bool) (hs : s.size ≤ 1048576) (hlen : s.size + s.size * (3 * t.size) < 140737488355328) : ∃ k, glossaryref01_Mend.f k s t whole = some ⟨(mend (bl s) (repB t whole)).toArray⟩ := by
  refine ⟨s.size + 5 + mfuel (pieces (bl s)), ?_⟩
  unfold glossaryref01_Mend.f
  rw [bad_ref s hs _ (by omega)]
  simp only [Option.bind_some]
  exact mend_l0 s t whole hs hlen (pieces (bl s)) [] _ rfl (by omega)
end Go.Proofs.YtbkimhbpcmbflaaDoor.C
