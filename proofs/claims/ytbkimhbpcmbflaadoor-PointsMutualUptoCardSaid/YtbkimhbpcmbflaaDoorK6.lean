/-
  points.Measure: what stands ahead of each unit, in a row of its own.
-/
import Derived.Test.YtbkimhbpcmbflaaDoorN1
import Derived.Test.YtbkimhbpcmbflaaDoorL1
import Derived.Deep.AppendLies
import Derived.Deep.RegionLaw
set_option linter.unusedVariables false
set_option linter.unusedSimpArgs false
namespace Go.Proofs.YtbkimhbpcmbflaaDoor.C
open Go Go.RowKit Go.Proofs.YtbkimhbpcmbflaaDoor.M Go.Proofs.YtbkimhbpcmbflaaDoor.E Go.Proofs.YtbkimhbpcmbflaaDoor.PAll Go.Proofs.YtbkimhbpcmbflaaDoorW.PrintWords

/-- bytes, pairs of bytes, ends of lines, units ahead of its line -/
structure Q where
  b : Int
  wd : Int
  ln : Int
  st : Int
def Q.cells (q : Q) : List Value := [.int .i64 q.b, .int .i64 q.wd, .int .i64 q.ln, .int .i64 q.st]
def stepQ (k : Nat) (q : Q) (t : List UInt8) : Q :=
  ⟨q.b + (dw t : Nat), q.wd + (if 65535 < (pt t : Int) ∧ (pt t : Int) ≤ 1114111 then 2 else 1), if (pt t : Int) = 10 then q.ln + 1 else q.ln, if (pt t : Int) = 10 then ((k + 1 : Nat) : Int) else q.st⟩
def accQ (us : List (List UInt8)) : List Q × Q := us.foldl (fun a t => (a.1 ++ [a.2], stepQ a.1.length a.2 t)) ([], ⟨0, 0, 0, 0⟩)
theorem accQ_nil : accQ [] = ([], ⟨0, 0, 0, 0⟩) := rfl
theorem accQ_snoc (us : List (List UInt8)) (t : List UInt8) : accQ (us ++ [t]) = ((accQ us).1 ++ [(accQ us).2], stepQ (accQ us).1.length (accQ us).2 t) := by
  unfold accQ; rw [List.foldl_append]; rfl
theorem snoc_ind {α : Type} {P : List α → Prop} (h0 : P []) (h1 : ∀ l x, P l → P (l ++ [x])) (l : List α) : P l := by
  have : ∀ r : List α, P r.reverse := fun r => by
    induction r with
    | nil => exact h0
    | cons x r ih => rw [List.reverse_cons]; exact h1 _ _ ih
  have := this l.reverse
  rwa [List.reverse_reverse] at this
theorem accQ_len (us : List (List UInt8)) : (accQ us).1.length = us.length := by
  induction us using snoc_ind with
  | h0 => rfl
  | h1 us t ih => rw [accQ_snoc]; simp [ih]
theorem accQ_get (us : List (List UInt8)) : ∀ i, i ≤ us.length → ((accQ us).1 ++ [(accQ us).2])[i]? = some (accQ (us.take i)).2 := by
  induction us using snoc_ind with
  | h0 => intro i h; obtain rfl : i = 0 := by simpa using h
          rfl
  | h1 us t ih =>
    intro i h
    rw [List.length_append, List.length_singleton] at h
    by_cases hi : i ≤ us.length
    · have := ih i hi
      rw [accQ_snoc]
      rw [List.getElem?_append_left (by rw [List.length_append, accQ_len, List.length_singleton]; omega), this, List.take_append_of_le_length hi]
    · obtain rfl : i = us.length + 1 := by omega
      rw [List.take_of_length_le (by simp), List.getElem?_append_right (by rw [accQ_len]; simp), accQ_len]
      simp
def qpts (us : List (List UInt8)) : List Int := us.map fun t => (pt t : Int)
theorem wsum_append (a b : List Int) : wsum (a ++ b) = wsum a + wsum b := by
  induction a with
  | nil => simp [wsum]
  | cons x a ih => rw [List.cons_append, wsum, wsum, ih]; omega
theorem lfold_snoc : ∀ (xs : List Int) (a b x : Int), lfold a b (xs ++ [x]) = if x = 10 then ((lfold a b xs).1 + 1, 1) else ((lfold a b xs).1, (lfold a b xs).2 + 1)
  | [], a, b, x => rfl
  | y :: xs, a, b, x => by
    rw [List.cons_append, lfold, lfold]
    split
    · exact lfold_snoc xs _ _ x
    · exact lfold_snoc xs _ _ x
theorem accQ_what (us : List (List UInt8)) : (accQ us).2.b = ((us.map dw).sum : Nat) ∧ (accQ us).2.wd = wsum (qpts us) ∧ lfold 1 1 (qpts us) = ((accQ us).2.ln + 1, (us.length : Int) - (accQ us).2.st + 1) := by
  induction us using snoc_ind with
  | h0 => exact ⟨rfl, rfl, rfl⟩
  | h1 us t ih =>
    obtain ⟨h1, h2, h3⟩ := ih
    have hl := accQ_len us
    have e : qpts (us ++ [t]) = qpts us ++ [(pt t : Int)] := by simp [qpts]
    rw [accQ_snoc, e]
    refine ⟨?_, ?_, ?_⟩
    · show (accQ us).2.b + (dw t : Nat) = _
      rw [h1]; simp
    · show (accQ us).2.wd + _ = _
      rw [h2, wsum_append, wsum, wsum]; omega
    · rw [lfold_snoc, h3, hl]
      by_cases hc : (pt t : Int) = 10
      · rw [if_pos hc]
        simp only [stepQ, if_pos hc, List.length_append, List.length_singleton]
        congr 1
        omega
      · rw [if_neg hc]
        simp only [stepQ, if_neg hc, List.length_append, List.length_singleton]
        congr 1
        omega
theorem accQ_bounds (us : List (List UInt8)) : 0 ≤ (accQ us).2.wd ∧ (accQ us).2.wd ≤ 2 * us.length ∧ 0 ≤ (accQ us).2.ln ∧ (accQ us).2.ln ≤ us.length ∧ 0 ≤ (accQ us).2.st ∧ (accQ us).2.st ≤ us.length := by
  induction us using snoc_ind with
  | h0 => exact ⟨by decide, by decide, by decide, by decide, by decide, by decide⟩
  | h1 us t ih =>
    obtain ⟨h1, h2, h3, h4, h5, h6⟩ := ih
    have hl := accQ_len us
    rw [accQ_snoc]
    simp only [stepQ, List.length_append, List.length_singleton, hl]
    refine ⟨?_, ?_, ?_, ?_, ?_, ?_⟩
    all_goals
      repeat' split
      all_goals omega

theorem below_set {B : Nat} {a w : World} (h : Below B a w) (i : Nat) (u : Value) : Below B a (w.setCell ⟨B, i, none⟩ u) := h.setCell (p := ⟨B, i, none⟩) (Nat.le_refl _) u
theorem off_snoc (pre : List (List UInt8)) (t : List UInt8) : off (pre ++ [t]) (pre ++ [t]).length = off pre pre.length + dw t := by
  unfold off; rw [List.take_length, List.take_length]; simp
def flat (qs : List Q) : List Value := qs.flatMap Q.cells
theorem flat_snoc (qs : List Q) (q : Q) : flat (qs ++ [q]) = flat qs ++ q.cells := by simp [flat]
theorem Tryd.infoSum : (Tryd.prog.info? 99).map (fun i => (i.zero, i.size, i.bytes)) = some (some (.agg #[.int .i64 0, .int .i64 0, .int .i64 0, .int .i64 0]), 4, 32) := by kernel_rfl

theorem now_cells (pre : List (List UInt8)) : (accQ pre).2.cells = [.int .i64 (off pre pre.length : Nat), .int .i64 (accQ pre).2.wd, .int .i64 (accQ pre).2.ln, .int .i64 (accQ pre).2.st] := by
  unfold Q.cells
  rw [(accQ_what pre).1]
  unfold off
  rw [List.take_length]
set_option maxHeartbeats 4000000 in
set_option maxRecDepth 1000000 in
theorem measure_any (s : ByteArray) (w : World) (hT : Lib.Utf8Tabs 0 1 w) (hs : s.size ≤ 1048576) :
    Calls Tryd.prog 51 #[.string s] w fun e w' => e = .returned (.pointer (some ⟨w.heap.size + 1, 0, none⟩)) ∧ Below w.heap.size w w' ∧
      ∃ v, w'.heap[w.heap.size + 1]? = some (.cells #[v] 102 (0, 0)) ∧ w'.ownsRow (w.heap.size + 2) 99 4 v ((sfx (bl s)).length + 1) (flat ((accQ (sfx (bl s))).1 ++ [(accQ (sfx (bl s))).2])) := by
  obtain ⟨i0, hi, hz0, hz1, hz2⟩ := info_parts Tryd.infoSum
  go_enter Tryd.func51, Tryd.ntmps51
  go_wp2
  go_loopw [] (fun wr => ∃ (pre : List (List UInt8)) (v : Value), Hid (sfx (bl s) = pre ++ sfx ((bl s).drop (off pre pre.length))) ∧ off pre pre.length ≤ s.size ∧ pre.length ≤ off pre pre.length ∧
      wr.heap[w.heap.size]? = some (.cells #[.int .i64 (off pre pre.length : Nat), .int .i64 (accQ pre).2.wd, .int .i64 (accQ pre).2.ln, .int .i64 (accQ pre).2.st] 99 (0, 0)) ∧
      wr.heap[w.heap.size + 1]? = some (.cells #[v] 102 (0, 0)) ∧ Hid (wr.ownsRow (w.heap.size + 2) 99 4 v pre.length (flat (accQ pre).1)) ∧ Below w.heap.size w wr)
    (fun wr => s.size - (match wr.cell? ⟨w.heap.size, 0, none⟩ with | some (.int _ n) => n.toNat | _ => 0))
  case atStart =>
    have h1 := heap_alloc_new w (.cells #[.int .i64 0, .int .i64 0, .int .i64 0, .int .i64 0] 99)
    have h2 := heap_alloc_new (w.alloc (.cells #[.int .i64 0, .int .i64 0, .int .i64 0, .int .i64 0] 99)) (.cells #[.slice none 0 0] 102)
    refine ⟨[], .slice none 0 0, by simp [Hid, off], by simp [off], by simp [off], ?_, ?_, World.ownsRow_nil _ _ _ _, ?_⟩
    · exact (Below.heap_alloc (w.alloc (.cells #[.int .i64 0, .int .i64 0, .int .i64 0, .int .i64 0] 99)) _ w.heap.size (by simp)).trans h1
    · simpa using h2
    · exact ((Below.refl _ w).alloc (Nat.le_refl _) _).alloc (by simp) _
  case round =>
    obtain ⟨pre, v, hpre, hps, hpl, hnow, hp, hown, hbw⟩ := hrel
    have k0 : wr.cell? ⟨w.heap.size, 0, none⟩ = some (.int .i64 (off pre pre.length : Nat)) := cell_of_row _ _ _ _ _ _ hnow
    have k1 : wr.cell? ⟨w.heap.size, 1, none⟩ = some (.int .i64 (accQ pre).2.wd) := cell_of_row _ _ _ _ _ _ hnow
    have k2 : wr.cell? ⟨w.heap.size, 2, none⟩ = some (.int .i64 (accQ pre).2.ln) := cell_of_row _ _ _ _ _ _ hnow
    have k3 : wr.cell? ⟨w.heap.size, 3, none⟩ = some (.int .i64 (accQ pre).2.st) := cell_of_row _ _ _ _ _ _ hnow
    have kp : wr.cell? ⟨w.heap.size + 1, 0, none⟩ = some v := cell_of_row _ _ _ _ _ _ hp
    have hsz1 : w.heap.size + 1 < wr.heap.size := (Array.getElem?_eq_some_iff.1 hp).1
    have kpX : ((wr.alloc (.cells #[.int .i64 (off pre pre.length : Nat), .int .i64 (accQ pre).2.wd, .int .i64 (accQ pre).2.ln, .int .i64 (accQ pre).2.st] 99)).drew).cell? ⟨w.heap.size + 1, 0, none⟩ = some v :=
      (World.cell?_alloc_lt _ _ ⟨w.heap.size + 1, 0, none⟩ hsz1).trans kp
    have HownX : Hid (((wr.alloc (.cells #[.int .i64 (off pre pre.length : Nat), .int .i64 (accQ pre).2.wd, .int .i64 (accQ pre).2.ln, .int .i64 (accQ pre).2.st] 99)).drew).ownsRow (w.heap.size + 2) 99 4 v pre.length (flat (accQ pre).1)) :=
      hown.out.alloc _
    have hblkX := heap_alloc_new wr (.cells #[.int .i64 (off pre pre.length : Nat), .int .i64 (accQ pre).2.wd, .int .i64 (accQ pre).2.ln, .int .i64 (accQ pre).2.st] 99)
    have Hnews : Hid (∀ j u, (accQ pre).2.cells[j]? = some u → ((wr.alloc (.cells #[.int .i64 (off pre pre.length : Nat), .int .i64 (accQ pre).2.wd, .int .i64 (accQ pre).2.ln, .int .i64 (accQ pre).2.st] 99)).drew).cell? ((⟨wr.heap.size, 0, none⟩ : Addr).add j) = some u) := fun j u hj => by
      have ea : (⟨wr.heap.size, 0, none⟩ : Addr).add j = ⟨wr.heap.size, j, none⟩ := by unfold Addr.add; split <;> simp_all
      rw [ea]
      refine Eq.trans (cell_of_row _ _ _ _ _ _ hblkX) ?_
      rw [now_cells] at hj
      rw [← Array.getElem?_toList]
      exact hj
    have hlen : pre.length ≤ 1048576 := by omega
    have hstep : ∀ w1 : World, ((wr.alloc (.cells #[.int .i64 (off pre pre.length : Nat), .int .i64 (accQ pre).2.wd, .int .i64 (accQ pre).2.ln, .int .i64 (accQ pre).2.st] 99)).drew).grownBy w1 v.ownBlock → w1.heap[w.heap.size + 1]? = some (.cells #[v] 102 (0, 0)) ∧ w1.heap[w.heap.size]? = some (.cells #[.int .i64 (off pre pre.length : Nat), .int .i64 (accQ pre).2.wd, .int .i64 (accQ pre).2.ln, .int .i64 (accQ pre).2.st] 99 (0, 0)) ∧
        w1.cell? ⟨w.heap.size + 1, 0, none⟩ = some v ∧ w1.frozen? ⟨w.heap.size + 1, 0, none⟩ = false ∧ Below w.heap.size w w1 := fun w1 hg => by
      have hne : ∀ k, k < w.heap.size + 2 → some k ≠ v.ownBlock := fun k hk e => by have := own_base hown.out k e.symm; omega
      have e1 := (hg.block (w.heap.size + 1) (by simp; omega) (hne _ (by omega))).trans ((Below.heap_alloc wr (.cells #[.int .i64 (off pre pre.length : Nat), .int .i64 (accQ pre).2.wd, .int .i64 (accQ pre).2.ln, .int .i64 (accQ pre).2.st] 99) (w.heap.size + 1) hsz1).trans hp)
      have e2 := (hg.block w.heap.size (by simp; omega) (hne _ (by omega))).trans ((Below.heap_alloc wr (.cells #[.int .i64 (off pre pre.length : Nat), .int .i64 (accQ pre).2.wd, .int .i64 (accQ pre).2.ln, .int .i64 (accQ pre).2.st] 99) w.heap.size (by omega)).trans hnow)
      exact ⟨e1, e2, cell_of_row _ _ _ _ _ _ e1, frozen_cells e1 0, ((hbw.alloc (by omega) _).drew).grown hg (by simp; omega) (fun k hk => by have := own_base hown.out k hk; omega)⟩
    by_cases hlt : off pre pre.length < s.size
    · obtain ⟨t, ht⟩ : ∃ t, (bl s).drop (off pre pre.length) = t := ⟨_, rfl⟩
      have hne : t ≠ [] := by rw [← ht]; exact bl_nonempty hlt
      have hw1 := dw_pos hne
      have hw2 := dw_len hne
      have hw4 : dw t ≤ 4 := (d_facts hne).2.1
      obtain ⟨a1, a2, a3, a4, a5, a6⟩ := accQ_bounds pre
      have hpl2 : off pre pre.length + dw t ≤ s.size := by
        have := bl_len s
        rw [← ht, List.length_drop] at hw2
        rw [← ht]
        omega
      have e0 := off_snoc pre t
      have el : (pre ++ [t]).length = pre.length + 1 := by simp
      have hpre2 : Hid (sfx (bl s) = (pre ++ [t]) ++ sfx ((bl s).drop (off (pre ++ [t]) (pre ++ [t]).length))) := by
        show sfx (bl s) = _
        rw [e0, ← List.drop_drop, ht, hpre.out, ht, sfx_cons hne]
        simp
      obtain ⟨x, hx⟩ : ∃ x, (pt t : Int) = x := ⟨_, rfl⟩
      have hx0 : 0 ≤ x ∧ x ≤ 1114367 := by
        have f := d_facts hne
        have := dc_lt t
        rw [← hx]
        unfold pt
        split
        · rename_i hh; have := ill_b0 hne hh; omega
        · omega
      have c5 : ∀ W, Lib.Utf8Tabs 0 1 W → Calls Tryd.prog 49 #[.string s, .int .i64 (off pre pre.length : Nat)] W fun e w' => e = .returned (.tuple #[.int .i32 x, .int .i64 (dw t : Nat)]) ∧ Below W.heap.size W w' := fun W h => by
        have := next_any s (off pre pre.length : Nat) W h (by omega)
        rw [nextP_in _ _ (by rw [bl_len]; exact hlt), ht, hx] at this
        exact this
      go_wp2_with fail
      go_region_law (refine step_append_lies _ rfl (.tmp 18) (.tmp 20) 100 rfl (w.heap.size + 2) 99 i0 (.agg #[.int .i64 0, .int .i64 0, .int .i64 0, .int .i64 0]) 4 32 Tryd.underlying100 hi hz0 hz1 hz2 rfl (by decide) v pre.length (flat (accQ pre).1) (by simp [Act.eval, Act.put]) HownX.out ⟨wr.heap.size, 0, none⟩ 1 1 (accQ pre).2.cells (by simp [Act.eval, Act.put]) rfl Hnews.out (by intro u hu; rw [now_cells] at hu; simp at hu; rcases hu with rfl | rfl | rfl | rfl <;> rfl) (by decide) (by unfold maxLen; omega) (by omega) (by simp; omega) _ rfl ?_; intro g cap w1 hown1 hgrow1 hat hlt1; obtain ⟨p1, n1, kp1, fz1, hb1⟩ := hstep w1 hgrow1; have Hown1 := Lib.hid hown1; clear hown1)
      all_goals
        have hbk2 := frozen_cells p1 0
        have p2 := cell_modify p1 0 (.slice (some ⟨g, 0, none⟩) (pre.length + 1) cap)
        have n2 : (w1.setCell ⟨w.heap.size + 1, 0, none⟩ (.slice (some ⟨g, 0, none⟩) (pre.length + 1) cap)).heap[w.heap.size]? = _ := (Below.heap_setCell w1 ⟨w.heap.size + 1, 0, none⟩ _ w.heap.size (by show w.heap.size ≠ w.heap.size + 1; omega)).trans n1
        have hg2 := own_base Hown1.out g (by simp [Value.ownBlock])
        have Hown2 : Hid ((w1.setCell ⟨w.heap.size + 1, 0, none⟩ (.slice (some ⟨g, 0, none⟩) (pre.length + 1) cap)).ownsRow (w.heap.size + 2) 99 4 (.slice (some ⟨g, 0, none⟩) (pre.length + 1) cap) (pre.length + 1) (flat (accQ pre).1 ++ (accQ pre).2.cells)) :=
          own_move Hown1.out (fun k hk => Below.heap_setCell w1 ⟨w.heap.size + 1, 0, none⟩ _ k (by have := own_base Hown1.out k hk; show k ≠ w.heap.size + 1; omega))
        have hb2 : Below w.heap.size w (w1.setCell ⟨w.heap.size + 1, 0, none⟩ (.slice (some ⟨g, 0, none⟩) (pre.length + 1) cap)) := hb1.setCell (p := ⟨w.heap.size + 1, 0, none⟩) (by show w.heap.size ≤ w.heap.size + 1; omega) _
        have p2' : (w1.setCell ⟨w.heap.size + 1, 0, none⟩ (.slice (some ⟨g, 0, none⟩) (pre.length + 1) cap)).heap[w.heap.size + 1]? = some (.cells #[.slice (some ⟨g, 0, none⟩) (pre.length + 1) cap] 102 (0, 0)) := p2
        generalize w1.setCell ⟨w.heap.size + 1, 0, none⟩ (.slice (some ⟨g, 0, none⟩) (pre.length + 1) cap) = w2 at n2 Hown2 hb2 p2' ⊢
        have Kk0 := Lib.hid k0
        clear p2 p1 n1 kp1 fz1 hb1 Hown1 hgrow1 hat hlt1 HownX Hnews hstep hblkX kpX k0 k1 k2 k3 kp hown hnow hp hbk2
        have k0 : w2.cell? ⟨w.heap.size, 0, none⟩ = some (.int .i64 (off pre pre.length : Nat)) := cell_of_row _ _ _ _ _ _ n2
        go_wp2_with fail
        refine (c5 w2 (tabs_below hT hb2 (Nat.le_refl _))).mono ?_
        rintro e w3 ⟨rfl, hb3⟩
        have hlw2 : w.heap.size + 1 < w2.heap.size := (Array.getElem?_eq_some_iff.1 p2').1
        have n3 := (hb3.block _ (by omega)).trans n2
        have p3 := (hb3.block _ (by omega)).trans p2'
        have Hown3 : Hid (w3.ownsRow _ _ _ _ _ _) := own_move Hown2.out (fun k hk => hb3.block k (by have := (Hown2.out.lt k hk).2; omega))
        have hbw3 := hb2.trans (hb3.mono hb2.size)
        have j0 : w3.cell? ⟨w.heap.size, 0, none⟩ = some (.int .i64 (off pre pre.length : Nat)) := cell_of_row _ _ _ _ _ _ n3
        have j1 : w3.cell? ⟨w.heap.size, 1, none⟩ = some (.int .i64 (accQ pre).2.wd) := cell_of_row _ _ _ _ _ _ n3
        have j2 : w3.cell? ⟨w.heap.size, 2, none⟩ = some (.int .i64 (accQ pre).2.ln) := cell_of_row _ _ _ _ _ _ n3
        have j3 : w3.cell? ⟨w.heap.size, 3, none⟩ = some (.int .i64 (accQ pre).2.st) := cell_of_row _ _ _ _ _ _ n3
        have jp : w3.cell? ⟨w.heap.size + 1, 0, none⟩ = some (.slice (some ⟨g, 0, none⟩) (pre.length + 1) cap) := cell_of_row _ _ _ _ _ _ p3
        have f0 := frozen_cells n3 0
        have f1 := frozen_cells n3 1
        have f2 := frozen_cells n3 2
        have f3 := frozen_cells n3 3
        clear n2 p2' Hown2 hb2 c5 hi hz0 hz1 hz2
        have hq : (accQ (pre ++ [t])).2 = stepQ (accQ pre).1.length (accQ pre).2 t := by rw [accQ_snoc]
        have hal := accQ_len pre
        have key : ∀ W : World, W.cell? ⟨w.heap.size, 0, none⟩ = some (.int .i64 ((off pre pre.length : Int) + (dw t : Int))) → (s.size - (match W.cell? ⟨w.heap.size, 0, none⟩ with | some (.int _ n) => n.toNat | _ => 0)) < s.size - (match wr.cell? ⟨w.heap.size, 0, none⟩ with | some (.int _ n) => n.toNat | _ => 0) := fun W h => by
          have et : ((off pre pre.length : Int) + (dw t : Int)).toNat = off pre pre.length + dw t := by omega
          rw [h, Kk0.out]
          show s.size - ((off pre pre.length : Int) + (dw t : Int)).toNat < s.size - ((off pre pre.length : Nat) : Int).toNat
          rw [et, Int.toNat_natCast]
          omega
        have Key := Lib.hid key
        clear key
        rcases (show (65535 < x ∧ x ≤ 1114111) ∨ (x = 10) ∨ (x ≤ 65535 ∧ x ≠ 10) ∨ (1114112 ≤ x) by omega) with ⟨c1, c2⟩ | c1 | ⟨c1, c2⟩ | c1
        · have e1 : (accQ (pre ++ [t])).2.wd = (accQ pre).2.wd + 2 := by rw [hq]; show (accQ pre).2.wd + (if 65535 < (pt t : Int) ∧ (pt t : Int) ≤ 1114111 then 2 else 1) = _; rw [hx, if_pos ⟨c1, c2⟩]
          have e2 : (accQ (pre ++ [t])).2.ln = (accQ pre).2.ln := by rw [hq]; show (if (pt t : Int) = 10 then (accQ pre).2.ln + 1 else (accQ pre).2.ln) = _; rw [hx, if_neg (by omega)]
          have e3 : (accQ (pre ++ [t])).2.st = (accQ pre).2.st := by rw [hq]; show (if (pt t : Int) = 10 then (((accQ pre).1.length + 1 : Nat) : Int) else (accQ pre).2.st) = _; rw [hx, if_neg (by omega)]
          clear hx hq
          go_wp2
          go_roundw
          case rel =>
            refine ⟨pre ++ [t], .slice (some ⟨g, 0, none⟩) (pre.length + 1) cap, hpre2, by omega, by omega, ?_, ?_, ?_, ?_⟩
            · rw [e0, e1, e2, e3]
              simp [World.setCell, Array.getElem?_modify, n3]
              try omega
            · simp [World.setCell, Array.getElem?_modify, p3]
            · show World.ownsRow _ _ _ _ _ _ _
              rw [el, accQ_snoc, flat_snoc]
              refine own_move Hown3.out (fun k hk => ?_)
              have := own_base Hown3.out k hk
              repeat rw [Below.heap_setCell _ _ _ _ (by show k ≠ w.heap.size; omega)]
            · repeat (first | exact hbw3 | refine below_set ?_ _ _)
          case measure =>
            exact Key.out _ (by simp [World.cell?, World.setCell, Array.getElem?_modify, n3])
        · have e1 : (accQ (pre ++ [t])).2.wd = (accQ pre).2.wd + 1 := by rw [hq]; show (accQ pre).2.wd + (if 65535 < (pt t : Int) ∧ (pt t : Int) ≤ 1114111 then 2 else 1) = _; rw [hx, if_neg (by omega)]
          have e2 : (accQ (pre ++ [t])).2.ln = (accQ pre).2.ln + 1 := by rw [hq]; show (if (pt t : Int) = 10 then (accQ pre).2.ln + 1 else (accQ pre).2.ln) = _; rw [hx, if_pos c1]
          have e3 : (accQ (pre ++ [t])).2.st = ((pre.length + 1 : Nat) : Int) := by rw [hq]; show (if (pt t : Int) = 10 then (((accQ pre).1.length + 1 : Nat) : Int) else (accQ pre).2.st) = _; rw [hx, if_pos c1, hal]
          clear hx hq
          go_wp2
          go_roundw
          case rel =>
            refine ⟨pre ++ [t], .slice (some ⟨g, 0, none⟩) (pre.length + 1) cap, hpre2, by omega, by omega, ?_, ?_, ?_, ?_⟩
            · rw [e0, e1, e2, e3]
              simp [World.setCell, Array.getElem?_modify, n3]
              try omega
            · simp [World.setCell, Array.getElem?_modify, p3]
            · show World.ownsRow _ _ _ _ _ _ _
              rw [el, accQ_snoc, flat_snoc]
              refine own_move Hown3.out (fun k hk => ?_)
              have := own_base Hown3.out k hk
              repeat rw [Below.heap_setCell _ _ _ _ (by show k ≠ w.heap.size; omega)]
            · repeat (first | exact hbw3 | refine below_set ?_ _ _)
          case measure =>
            exact Key.out _ (by simp [World.cell?, World.setCell, Array.getElem?_modify, n3])
        · have e1 : (accQ (pre ++ [t])).2.wd = (accQ pre).2.wd + 1 := by rw [hq]; show (accQ pre).2.wd + (if 65535 < (pt t : Int) ∧ (pt t : Int) ≤ 1114111 then 2 else 1) = _; rw [hx, if_neg (by omega)]
          have e2 : (accQ (pre ++ [t])).2.ln = (accQ pre).2.ln := by rw [hq]; show (if (pt t : Int) = 10 then (accQ pre).2.ln + 1 else (accQ pre).2.ln) = _; rw [hx, if_neg c2]
          have e3 : (accQ (pre ++ [t])).2.st = (accQ pre).2.st := by rw [hq]; show (if (pt t : Int) = 10 then (((accQ pre).1.length + 1 : Nat) : Int) else (accQ pre).2.st) = _; rw [hx, if_neg c2]
          clear hx hq
          go_wp2
          go_roundw
          case rel =>
            refine ⟨pre ++ [t], .slice (some ⟨g, 0, none⟩) (pre.length + 1) cap, hpre2, by omega, by omega, ?_, ?_, ?_, ?_⟩
            · rw [e0, e1, e2, e3]
              simp [World.setCell, Array.getElem?_modify, n3]
              try omega
            · simp [World.setCell, Array.getElem?_modify, p3]
            · show World.ownsRow _ _ _ _ _ _ _
              rw [el, accQ_snoc, flat_snoc]
              refine own_move Hown3.out (fun k hk => ?_)
              have := own_base Hown3.out k hk
              repeat rw [Below.heap_setCell _ _ _ _ (by show k ≠ w.heap.size; omega)]
            · repeat (first | exact hbw3 | refine below_set ?_ _ _)
          case measure =>
            exact Key.out _ (by simp [World.cell?, World.setCell, Array.getElem?_modify, n3])
        · have e1 : (accQ (pre ++ [t])).2.wd = (accQ pre).2.wd + 1 := by rw [hq]; show (accQ pre).2.wd + (if 65535 < (pt t : Int) ∧ (pt t : Int) ≤ 1114111 then 2 else 1) = _; rw [hx, if_neg (by omega)]
          have e2 : (accQ (pre ++ [t])).2.ln = (accQ pre).2.ln := by rw [hq]; show (if (pt t : Int) = 10 then (accQ pre).2.ln + 1 else (accQ pre).2.ln) = _; rw [hx, if_neg (by omega)]
          have e3 : (accQ (pre ++ [t])).2.st = (accQ pre).2.st := by rw [hq]; show (if (pt t : Int) = 10 then (((accQ pre).1.length + 1 : Nat) : Int) else (accQ pre).2.st) = _; rw [hx, if_neg (by omega)]
          clear hx hq
          go_wp2
          go_roundw
          case rel =>
            refine ⟨pre ++ [t], .slice (some ⟨g, 0, none⟩) (pre.length + 1) cap, hpre2, by omega, by omega, ?_, ?_, ?_, ?_⟩
            · rw [e0, e1, e2, e3]
              simp [World.setCell, Array.getElem?_modify, n3]
              try omega
            · simp [World.setCell, Array.getElem?_modify, p3]
            · show World.ownsRow _ _ _ _ _ _ _
              rw [el, accQ_snoc, flat_snoc]
              refine own_move Hown3.out (fun k hk => ?_)
              have := own_base Hown3.out k hk
              repeat rw [Below.heap_setCell _ _ _ _ (by show k ≠ w.heap.size; omega)]
            · repeat (first | exact hbw3 | refine below_set ?_ _ _)
          case measure =>
            exact Key.out _ (by simp [World.cell?, World.setCell, Array.getElem?_modify, n3])
    · have hdone : sfx (bl s) = pre := by
        have h1 := hpre.out
        rw [List.drop_of_length_le (by rw [bl_len]; omega), sfx_nil, List.append_nil] at h1
        exact h1
      go_wp2_with fail
      go_region_law (refine step_append_lies _ rfl (.tmp 66) (.tmp 68) 100 rfl (w.heap.size + 2) 99 i0 (.agg #[.int .i64 0, .int .i64 0, .int .i64 0, .int .i64 0]) 4 32 Tryd.underlying100 hi hz0 hz1 hz2 rfl (by decide) v pre.length (flat (accQ pre).1) (by simp [Act.eval, Act.put]) HownX.out ⟨wr.heap.size, 0, none⟩ 1 1 (accQ pre).2.cells (by simp [Act.eval, Act.put]) rfl Hnews.out (by intro u hu; rw [now_cells] at hu; simp at hu; rcases hu with rfl | rfl | rfl | rfl <;> rfl) (by decide) (by unfold maxLen; omega) (by omega) (by simp; omega) _ rfl ?_; intro g cap w1 hown1 hgrow1 hat hlt1; obtain ⟨p1, n1, kp1, fz1, hb1⟩ := hstep w1 hgrow1; have Hown1 := Lib.hid hown1; clear hown1)
      all_goals
        have p2 := cell_modify p1 0 (.slice (some ⟨g, 0, none⟩) (pre.length + 1) cap)
        have Hown2 : Hid ((w1.setCell ⟨w.heap.size + 1, 0, none⟩ (.slice (some ⟨g, 0, none⟩) (pre.length + 1) cap)).ownsRow (w.heap.size + 2) 99 4 (.slice (some ⟨g, 0, none⟩) (pre.length + 1) cap) (pre.length + 1) (flat (accQ pre).1 ++ (accQ pre).2.cells)) :=
          own_move Hown1.out (fun k hk => Below.heap_setCell w1 ⟨w.heap.size + 1, 0, none⟩ _ k (by have := own_base Hown1.out k hk; show k ≠ w.heap.size + 1; omega))
        have hb2 : Below w.heap.size w (w1.setCell ⟨w.heap.size + 1, 0, none⟩ (.slice (some ⟨g, 0, none⟩) (pre.length + 1) cap)) := hb1.setCell (p := ⟨w.heap.size + 1, 0, none⟩) (by show w.heap.size ≤ w.heap.size + 1; omega) _
        go_wp2
        go_ret
        refine ⟨rfl, hb2, .slice (some ⟨g, 0, none⟩) (pre.length + 1) cap, p2, ?_⟩
        rw [hdone, flat_snoc]
        exact Hown2.out
end Go.Proofs.YtbkimhbpcmbflaaDoor.C
