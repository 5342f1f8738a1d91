/-
  The second part of the texts of PointsKnown.
-/
import Derived.Test.YtbkimhbpcmbflaaDoorSPointsKnownA
import Derived.Test.YtbkimhbpcmbflaaDoorShelf
import Derived.Test.YtbkimhbpcmbflaaDoorMath1
import Derived.WalkKit
import Derived.WalkSpells
import Derived.WalkLawsBesides
import Derived.BigCall
import Derived.Lib.Hide
import Derived.Lib.IndexBytes
import Derived.Laws.IdiomStrings
import Derived.Lib.OthersKept
import Derived.Lib.AppendStr
import Derived.Laws.BytesArg
import Derived.LaidEql
import Derived.Stop.Asserts
import Derived.RowKitTokens
import Derived.KernelRfl
import Derived.Laws.Tables
import Derived.Laws.Rows
import Derived.Deep.RegionHeld3
import Derived.Test.YtbkimhbpcmbflaaDoorPAllx
import Derived.Laws.Cover4
import Derived.Deep.AppendLies
import Derived.Deep.RegionLaw
import Derived.Deep.QuietTactic
import Derived.BigQuiet
import Derived.StillTailTactics
import Derived.OwnWalk
set_option linter.unusedVariables false
set_option linter.unusedSimpArgs false
set_option linter.unusedVariables false
set_option linter.unusedSimpArgs false
namespace Go.Proofs.YtbkimhbpcmbflaaDoor.C
open Go Go.RowKit Go.Proofs.YtbkimhbpcmbflaaDoor.M Go.Proofs.YtbkimhbpcmbflaaDoor.E Go.Proofs.YtbkimhbpcmbflaaDoor.PAll Go.Proofs.YtbkimhbpcmbflaaDoorW.PrintWords
/-- bytes, pairs of bytes, ends of lines, units ahead of its line -/
structure Q where
  b : Int
  wd : Int
  ln : Int
  st : Int
def Q.cells (q : Q) : List Value := [.int .i64 q.b, .int .i64 q.wd, .int .i64 q.ln, .int .i64 q.st]
def stepQ (k : Nat) (q : Q) (t : List UInt8) : Q :=
  ⟨q.b + (dw t : Nat), q.wd + (if 65535 < (pt t : Int) ∧ (pt t : Int) ≤ 1114111 then 2 else 1), if (pt t : Int) = 10 then q.ln + 1 else q.ln, if (pt t : Int) = 10 then ((k + 1 : Nat) : Int) else q.st⟩
def accQ (us : List (List UInt8)) : List Q × Q := us.foldl (fun a t => (a.1 ++ [a.2], stepQ a.1.length a.2 t)) ([], ⟨0, 0, 0, 0⟩)
theorem accQ_snoc (us : List (List UInt8)) (t : List UInt8) : accQ (us ++ [t]) = ((accQ us).1 ++ [(accQ us).2], stepQ (accQ us).1.length (accQ us).2 t) := by
  unfold accQ; rw [List.foldl_append]; rfl
theorem snoc_ind {α : Type} {P : List α → Prop} (h0 : P []) (h1 : ∀ l x, P l → P (l ++ [x])) (l : List α) : P l := by
  have : ∀ r : List α, P r.reverse := fun r => by
    induction r with
    | nil => exact h0
    | cons x r ih => rw [List.reverse_cons]; exact h1 _ _ ih
  have := this l.reverse
  rwa [List.reverse_reverse] at this
theorem accQ_len (us : List (List UInt8)) : (accQ us).1.length = us.length := by
  induction us using snoc_ind with
  | h0 => rfl
  | h1 us t ih => rw [accQ_snoc]; simp [ih]
theorem accQ_get (us : List (List UInt8)) : ∀ i, i ≤ us.length → ((accQ us).1 ++ [(accQ us).2])[i]? = some (accQ (us.take i)).2 := by
  induction us using snoc_ind with
  | h0 => intro i h; obtain rfl : i = 0 := by simpa using h
          rfl
  | h1 us t ih =>
    intro i h
    rw [List.length_append, List.length_singleton] at h
    by_cases hi : i ≤ us.length
    · have := ih i hi
      rw [accQ_snoc]
      rw [List.getElem?_append_left (by rw [List.length_append, accQ_len, List.length_singleton]; omega), this, List.take_append_of_le_length hi]
    · obtain rfl : i = us.length + 1 := by omega
      rw [List.take_of_length_le (by simp), List.getElem?_append_right (by rw [accQ_len]; simp), accQ_len]
      simp
def qpts (us : List (List UInt8)) : List Int := us.map fun t => (pt t : Int)
theorem wsum_append (a b : List Int) : wsum (a ++ b) = wsum a + wsum b := by
  induction a with
  | nil => simp [wsum]
  | cons x a ih => rw [List.cons_append, wsum, wsum, ih]; omega
theorem lfold_snoc : ∀ (xs : List Int) (a b x : Int), lfold a b (xs ++ [x]) = if x = 10 then ((lfold a b xs).1 + 1, 1) else ((lfold a b xs).1, (lfold a b xs).2 + 1)
  | [], a, b, x => rfl
  | y :: xs, a, b, x => by
    rw [List.cons_append, lfold, lfold]
    split
    · exact lfold_snoc xs _ _ x
    · exact lfold_snoc xs _ _ x
theorem accQ_what (us : List (List UInt8)) : (accQ us).2.b = ((us.map dw).sum : Nat) ∧ (accQ us).2.wd = wsum (qpts us) ∧ lfold 1 1 (qpts us) = ((accQ us).2.ln + 1, (us.length : Int) - (accQ us).2.st + 1) := by
  induction us using snoc_ind with
  | h0 => exact ⟨rfl, rfl, rfl⟩
  | h1 us t ih =>
    obtain ⟨h1, h2, h3⟩ := ih
    have hl := accQ_len us
    have e : qpts (us ++ [t]) = qpts us ++ [(pt t : Int)] := by simp [qpts]
    rw [accQ_snoc, e]
    refine ⟨?_, ?_, ?_⟩
    · show (accQ us).2.b + (dw t : Nat) = _
      rw [h1]; simp
    · show (accQ us).2.wd + _ = _
      rw [h2, wsum_append, wsum, wsum]; omega
    · rw [lfold_snoc, h3, hl]
      by_cases hc : (pt t : Int) = 10
      · rw [if_pos hc]
        simp only [stepQ, if_pos hc, List.length_append, List.length_singleton]
        congr 1
        omega
      · rw [if_neg hc]
        simp only [stepQ, if_neg hc, List.length_append, List.length_singleton]
        congr 1
        omega
theorem accQ_bounds (us : List (List UInt8)) : 0 ≤ (accQ us).2.wd ∧ (accQ us).2.wd ≤ 2 * us.length ∧ 0 ≤ (accQ us).2.ln ∧ (accQ us).2.ln ≤ us.length ∧ 0 ≤ (accQ us).2.st ∧ (accQ us).2.st ≤ us.length := by
  induction us using snoc_ind with
  | h0 => exact ⟨by decide, by decide, by decide, by decide, by decide, by decide⟩
  | h1 us t ih =>
    obtain ⟨h1, h2, h3, h4, h5, h6⟩ := ih
    have hl := accQ_len us
    rw [accQ_snoc]
    simp only [stepQ, List.length_append, List.length_singleton, hl]
    refine ⟨?_, ?_, ?_, ?_, ?_, ?_⟩
    all_goals
      repeat' split
      all_goals omega
theorem below_set {B : Nat} {a w : World} (h : Below B a w) (i : Nat) (u : Value) : Below B a (w.setCell ⟨B, i, none⟩ u) := h.setCell (p := ⟨B, i, none⟩) (Nat.le_refl _) u
theorem off_snoc (pre : List (List UInt8)) (t : List UInt8) : off (pre ++ [t]) (pre ++ [t]).length = off pre pre.length + dw t := by
  unfold off; rw [List.take_length, List.take_length]; simp
def flat (qs : List Q) : List Value := qs.flatMap Q.cells
theorem flat_snoc (qs : List Q) (q : Q) : flat (qs ++ [q]) = flat qs ++ q.cells := by simp [flat]
theorem Tryd.infoSum : (Tryd.prog.info? 99).map (fun i => (i.zero, i.size, i.bytes)) = some (some (.agg #[.int .i64 0, .int .i64 0, .int .i64 0, .int .i64 0]), 4, 32) := by kernel_rfl
theorem now_cells (pre : List (List UInt8)) : (accQ pre).2.cells = [.int .i64 (off pre pre.length : Nat), .int .i64 (accQ pre).2.wd, .int .i64 (accQ pre).2.ln, .int .i64 (accQ pre).2.st] := by
  unfold Q.cells
  rw [(accQ_what pre).1]
  unfold off
  rw [List.take_length]
set_option maxHeartbeats 4000000 in
set_option maxRecDepth 1000000 in
theorem measure_any (s : ByteArray) (w : World) (hT : Lib.Utf8Tabs 0 1 w) (hs : s.size ≤ 1048576) :
    Calls Tryd.prog 51 #[.string s] w fun e w' => e = .returned (.pointer (some ⟨w.heap.size + 1, 0, none⟩)) ∧ Below w.heap.size w w' ∧
      ∃ v, w'.heap[w.heap.size + 1]? = some (.cells #[v] 102 (0, 0)) ∧ w'.ownsRow (w.heap.size + 2) 99 4 v ((sfx (bl s)).length + 1) (flat ((accQ (sfx (bl s))).1 ++ [(accQ (sfx (bl s))).2])) := by
  obtain ⟨i0, hi, hz0, hz1, hz2⟩ := info_parts Tryd.infoSum
  go_enter Tryd.func51, Tryd.ntmps51
  go_wp2
  go_loopw [] (fun wr => ∃ (pre : List (List UInt8)) (v : Value), Hid (sfx (bl s) = pre ++ sfx ((bl s).drop (off pre pre.length))) ∧ off pre pre.length ≤ s.size ∧ pre.length ≤ off pre pre.length ∧
      wr.heap[w.heap.size]? = some (.cells #[.int .i64 (off pre pre.length : Nat), .int .i64 (accQ pre).2.wd, .int .i64 (accQ pre).2.ln, .int .i64 (accQ pre).2.st] 99 (0, 0)) ∧
      wr.heap[w.heap.size + 1]? = some (.cells #[v] 102 (0, 0)) ∧ Hid (wr.ownsRow (w.heap.size + 2) 99 4 v pre.length (flat (accQ pre).1)) ∧ Below w.heap.size w wr)
    (fun wr => s.size - (match wr.cell? ⟨w.heap.size, 0, none⟩ with | some (.int _ n) => n.toNat | _ => 0))
  case atStart =>
    have h1 := heap_alloc_new w (.cells #[.int .i64 0, .int .i64 0, .int .i64 0, .int .i64 0] 99)
    have h2 := heap_alloc_new (w.alloc (.cells #[.int .i64 0, .int .i64 0, .int .i64 0, .int .i64 0] 99)) (.cells #[.slice none 0 0] 102)
    refine ⟨[], .slice none 0 0, by simp [Hid, off], by simp [off], by simp [off], ?_, ?_, World.ownsRow_nil _ _ _ _, ?_⟩
    · exact (Below.heap_alloc (w.alloc (.cells #[.int .i64 0, .int .i64 0, .int .i64 0, .int .i64 0] 99)) _ w.heap.size (by simp)).trans h1
    · simpa using h2
    · exact ((Below.refl _ w).alloc (Nat.le_refl _) _).alloc (by simp) _
  case round =>
    obtain ⟨pre, v, hpre, hps, hpl, hnow, hp, hown, hbw⟩ := hrel
    have k0 : wr.cell? ⟨w.heap.size, 0, none⟩ = some (.int .i64 (off pre pre.length : Nat)) := cell_of_row _ _ _ _ _ _ hnow
    have k1 : wr.cell? ⟨w.heap.size, 1, none⟩ = some (.int .i64 (accQ pre).2.wd) := cell_of_row _ _ _ _ _ _ hnow
    have k2 : wr.cell? ⟨w.heap.size, 2, none⟩ = some (.int .i64 (accQ pre).2.ln) := cell_of_row _ _ _ _ _ _ hnow
    have k3 : wr.cell? ⟨w.heap.size, 3, none⟩ = some (.int .i64 (accQ pre).2.st) := cell_of_row _ _ _ _ _ _ hnow
    have kp : wr.cell? ⟨w.heap.size + 1, 0, none⟩ = some v := cell_of_row _ _ _ _ _ _ hp
    have hsz1 : w.heap.size + 1 < wr.heap.size := (Array.getElem?_eq_some_iff.1 hp).1
    have kpX : ((wr.alloc (.cells #[.int .i64 (off pre pre.length : Nat), .int .i64 (accQ pre).2.wd, .int .i64 (accQ pre).2.ln, .int .i64 (accQ pre).2.st] 99)).drew).cell? ⟨w.heap.size + 1, 0, none⟩ = some v :=
      (World.cell?_alloc_lt _ _ ⟨w.heap.size + 1, 0, none⟩ hsz1).trans kp
    have HownX : Hid (((wr.alloc (.cells #[.int .i64 (off pre pre.length : Nat), .int .i64 (accQ pre).2.wd, .int .i64 (accQ pre).2.ln, .int .i64 (accQ pre).2.st] 99)).drew).ownsRow (w.heap.size + 2) 99 4 v pre.length (flat (accQ pre).1)) :=
      hown.out.alloc _
    have hblkX := heap_alloc_new wr (.cells #[.int .i64 (off pre pre.length : Nat), .int .i64 (accQ pre).2.wd, .int .i64 (accQ pre).2.ln, .int .i64 (accQ pre).2.st] 99)
    have Hnews : Hid (∀ j u, (accQ pre).2.cells[j]? = some u → ((wr.alloc (.cells #[.int .i64 (off pre pre.length : Nat), .int .i64 (accQ pre).2.wd, .int .i64 (accQ pre).2.ln, .int .i64 (accQ pre).2.st] 99)).drew).cell? ((⟨wr.heap.size, 0, none⟩ : Addr).add j) = some u) := fun j u hj => by
      have ea : (⟨wr.heap.size, 0, none⟩ : Addr).add j = ⟨wr.heap.size, j, none⟩ := by unfold Addr.add; split <;> simp_all
      rw [ea]
      refine Eq.trans (cell_of_row _ _ _ _ _ _ hblkX) ?_
      rw [now_cells] at hj
      rw [← Array.getElem?_toList]
      exact hj
    have hlen : pre.length ≤ 1048576 := by omega
    have hstep : ∀ w1 : World, ((wr.alloc (.cells #[.int .i64 (off pre pre.length : Nat), .int .i64 (accQ pre).2.wd, .int .i64 (accQ pre).2.ln, .int .i64 (accQ pre).2.st] 99)).drew).grownBy w1 v.ownBlock → w1.heap[w.heap.size + 1]? = some (.cells #[v] 102 (0, 0)) ∧ w1.heap[w.heap.size]? = some (.cells #[.int .i64 (off pre pre.length : Nat), .int .i64 (accQ pre).2.wd, .int .i64 (accQ pre).2.ln, .int .i64 (accQ pre).2.st] 99 (0, 0)) ∧
        w1.cell? ⟨w.heap.size + 1, 0, none⟩ = some v ∧ w1.frozen? ⟨w.heap.size + 1, 0, none⟩ = false ∧ Below w.heap.size w w1 := fun w1 hg => by
      have hne : ∀ k, k < w.heap.size + 2 → some k ≠ v.ownBlock := fun k hk e => by have := own_base hown.out k e.symm; omega
      have e1 := (hg.block (w.heap.size + 1) (by simp; omega) (hne _ (by omega))).trans ((Below.heap_alloc wr (.cells #[.int .i64 (off pre pre.length : Nat), .int .i64 (accQ pre).2.wd, .int .i64 (accQ pre).2.ln, .int .i64 (accQ pre).2.st] 99) (w.heap.size + 1) hsz1).trans hp)
      have e2 := (hg.block w.heap.size (by simp; omega) (hne _ (by omega))).trans ((Below.heap_alloc wr (.cells #[.int .i64 (off pre pre.length : Nat), .int .i64 (accQ pre).2.wd, .int .i64 (accQ pre).2.ln, .int .i64 (accQ pre).2.st] 99) w.heap.size (by omega)).trans hnow)
      exact ⟨e1, e2, cell_of_row _ _ _ _ _ _ e1, frozen_cells e1 0, ((hbw.alloc (by omega) _).drew).grown hg (by simp; omega) (fun k hk => by have := own_base hown.out k hk; omega)⟩
    by_cases hlt : off pre pre.length < s.size
    · obtain ⟨t, ht⟩ : ∃ t, (bl s).drop (off pre pre.length) = t := ⟨_, rfl⟩
      have hne : t ≠ [] := by rw [← ht]; exact bl_nonempty hlt
      have hw1 := dw_pos hne
      have hw2 := dw_len hne
      have hw4 : dw t ≤ 4 := (d_facts hne).2.1
      obtain ⟨a1, a2, a3, a4, a5, a6⟩ := accQ_bounds pre
      have hpl2 : off pre pre.length + dw t ≤ s.size := by
        have := bl_len s
        rw [← ht, List.length_drop] at hw2
        rw [← ht]
        omega
      have e0 := off_snoc pre t
      have el : (pre ++ [t]).length = pre.length + 1 := by simp
      have hpre2 : Hid (sfx (bl s) = (pre ++ [t]) ++ sfx ((bl s).drop (off (pre ++ [t]) (pre ++ [t]).length))) := by
        show sfx (bl s) = _
        rw [e0, ← List.drop_drop, ht, hpre.out, ht, sfx_cons hne]
        simp
      obtain ⟨x, hx⟩ : ∃ x, (pt t : Int) = x := ⟨_, rfl⟩
      have hx0 : 0 ≤ x ∧ x ≤ 1114367 := by
        have f := d_facts hne
        have := dc_lt t
        rw [← hx]
        unfold pt
        split
        · rename_i hh; have := ill_b0 hne hh; omega
        · omega
      have c5 : ∀ W, Lib.Utf8Tabs 0 1 W → Calls Tryd.prog 49 #[.string s, .int .i64 (off pre pre.length : Nat)] W fun e w' => e = .returned (.tuple #[.int .i32 x, .int .i64 (dw t : Nat)]) ∧ Below W.heap.size W w' := fun W h => by
        have := next_any s (off pre pre.length : Nat) W h (by omega)
        rw [nextP_in _ _ (by rw [bl_len]; exact hlt), ht, hx] at this
        exact this
      go_wp2_with fail
      go_region_law (refine step_append_lies _ rfl (.tmp 18) (.tmp 20) 100 rfl (w.heap.size + 2) 99 i0 (.agg #[.int .i64 0, .int .i64 0, .int .i64 0, .int .i64 0]) 4 32 Tryd.underlying100 hi hz0 hz1 hz2 rfl (by decide) v pre.length (flat (accQ pre).1) (by simp [Act.eval, Act.put]) HownX.out ⟨wr.heap.size, 0, none⟩ 1 1 (accQ pre).2.cells (by simp [Act.eval, Act.put]) rfl Hnews.out (by intro u hu; rw [now_cells] at hu; simp at hu; rcases hu with rfl | rfl | rfl | rfl <;> rfl) (by decide) (by unfold maxLen; omega) (by omega) (by simp; omega) _ rfl ?_; intro g cap w1 hown1 hgrow1 hat hlt1; obtain ⟨p1, n1, kp1, fz1, hb1⟩ := hstep w1 hgrow1; have Hown1 := Lib.hid hown1; clear hown1)
      all_goals
        have hbk2 := frozen_cells p1 0
        have p2 := cell_modify p1 0 (.slice (some ⟨g, 0, none⟩) (pre.length + 1) cap)
        have n2 : (w1.setCell ⟨w.heap.size + 1, 0, none⟩ (.slice (some ⟨g, 0, none⟩) (pre.length + 1) cap)).heap[w.heap.size]? = _ := (Below.heap_setCell w1 ⟨w.heap.size + 1, 0, none⟩ _ w.heap.size (by show w.heap.size ≠ w.heap.size + 1; omega)).trans n1
        have hg2 := own_base Hown1.out g (by simp [Value.ownBlock])
        have Hown2 : Hid ((w1.setCell ⟨w.heap.size + 1, 0, none⟩ (.slice (some ⟨g, 0, none⟩) (pre.length + 1) cap)).ownsRow (w.heap.size + 2) 99 4 (.slice (some ⟨g, 0, none⟩) (pre.length + 1) cap) (pre.length + 1) (flat (accQ pre).1 ++ (accQ pre).2.cells)) :=
          own_move Hown1.out (fun k hk => Below.heap_setCell w1 ⟨w.heap.size + 1, 0, none⟩ _ k (by have := own_base Hown1.out k hk; show k ≠ w.heap.size + 1; omega))
        have hb2 : Below w.heap.size w (w1.setCell ⟨w.heap.size + 1, 0, none⟩ (.slice (some ⟨g, 0, none⟩) (pre.length + 1) cap)) := hb1.setCell (p := ⟨w.heap.size + 1, 0, none⟩) (by show w.heap.size ≤ w.heap.size + 1; omega) _
        have p2' : (w1.setCell ⟨w.heap.size + 1, 0, none⟩ (.slice (some ⟨g, 0, none⟩) (pre.length + 1) cap)).heap[w.heap.size + 1]? = some (.cells #[.slice (some ⟨g, 0, none⟩) (pre.length + 1) cap] 102 (0, 0)) := p2
        generalize w1.setCell ⟨w.heap.size + 1, 0, none⟩ (.slice (some ⟨g, 0, none⟩) (pre.length + 1) cap) = w2 at n2 Hown2 hb2 p2' ⊢
        have Kk0 := Lib.hid k0
        clear p2 p1 n1 kp1 fz1 hb1 Hown1 hgrow1 hat hlt1 HownX Hnews hstep hblkX kpX k0 k1 k2 k3 kp hown hnow hp hbk2
        have k0 : w2.cell? ⟨w.heap.size, 0, none⟩ = some (.int .i64 (off pre pre.length : Nat)) := cell_of_row _ _ _ _ _ _ n2
        go_wp2_with fail
        refine (c5 w2 (tabs_below hT hb2 (Nat.le_refl _))).mono ?_
        rintro e w3 ⟨rfl, hb3⟩
        have hlw2 : w.heap.size + 1 < w2.heap.size := (Array.getElem?_eq_some_iff.1 p2').1
        have n3 := (hb3.block _ (by omega)).trans n2
        have p3 := (hb3.block _ (by omega)).trans p2'
        have Hown3 : Hid (w3.ownsRow _ _ _ _ _ _) := own_move Hown2.out (fun k hk => hb3.block k (by have := (Hown2.out.lt k hk).2; omega))
        have hbw3 := hb2.trans (hb3.mono hb2.size)
        have j0 : w3.cell? ⟨w.heap.size, 0, none⟩ = some (.int .i64 (off pre pre.length : Nat)) := cell_of_row _ _ _ _ _ _ n3
        have j1 : w3.cell? ⟨w.heap.size, 1, none⟩ = some (.int .i64 (accQ pre).2.wd) := cell_of_row _ _ _ _ _ _ n3
        have j2 : w3.cell? ⟨w.heap.size, 2, none⟩ = some (.int .i64 (accQ pre).2.ln) := cell_of_row _ _ _ _ _ _ n3
        have j3 : w3.cell? ⟨w.heap.size, 3, none⟩ = some (.int .i64 (accQ pre).2.st) := cell_of_row _ _ _ _ _ _ n3
        have jp : w3.cell? ⟨w.heap.size + 1, 0, none⟩ = some (.slice (some ⟨g, 0, none⟩) (pre.length + 1) cap) := cell_of_row _ _ _ _ _ _ p3
        have f0 := frozen_cells n3 0
        have f1 := frozen_cells n3 1
        have f2 := frozen_cells n3 2
        have f3 := frozen_cells n3 3
        clear n2 p2' Hown2 hb2 c5 hi hz0 hz1 hz2
        have hq : (accQ (pre ++ [t])).2 = stepQ (accQ pre).1.length (accQ pre).2 t := by rw [accQ_snoc]
        have hal := accQ_len pre
        have key : ∀ W : World, W.cell? ⟨w.heap.size, 0, none⟩ = some (.int .i64 ((off pre pre.length : Int) + (dw t : Int))) → (s.size - (match W.cell? ⟨w.heap.size, 0, none⟩ with | some (.int _ n) => n.toNat | _ => 0)) < s.size - (match wr.cell? ⟨w.heap.size, 0, none⟩ with | some (.int _ n) => n.toNat | _ => 0) := fun W h => by
          have et : ((off pre pre.length : Int) + (dw t : Int)).toNat = off pre pre.length + dw t := by omega
          rw [h, Kk0.out]
          show s.size - ((off pre pre.length : Int) + (dw t : Int)).toNat < s.size - ((off pre pre.length : Nat) : Int).toNat
          rw [et, Int.toNat_natCast]
          omega
        have Key := Lib.hid key
        clear key
        rcases (show (65535 < x ∧ x ≤ 1114111) ∨ (x = 10) ∨ (x ≤ 65535 ∧ x ≠ 10) ∨ (1114112 ≤ x) by omega) with ⟨c1, c2⟩ | c1 | ⟨c1, c2⟩ | c1
        · have e1 : (accQ (pre ++ [t])).2.wd = (accQ pre).2.wd + 2 := by rw [hq]; show (accQ pre).2.wd + (if 65535 < (pt t : Int) ∧ (pt t : Int) ≤ 1114111 then 2 else 1) = _; rw [hx, if_pos ⟨c1, c2⟩]
          have e2 : (accQ (pre ++ [t])).2.ln = (accQ pre).2.ln := by rw [hq]; show (if (pt t : Int) = 10 then (accQ pre).2.ln + 1 else (accQ pre).2.ln) = _; rw [hx, if_neg (by omega)]
          have e3 : (accQ (pre ++ [t])).2.st = (accQ pre).2.st := by rw [hq]; show (if (pt t : Int) = 10 then (((accQ pre).1.length + 1 : Nat) : Int) else (accQ pre).2.st) = _; rw [hx, if_neg (by omega)]
          clear hx hq
          go_wp2
          go_roundw
          case rel =>
            refine ⟨pre ++ [t], .slice (some ⟨g, 0, none⟩) (pre.length + 1) cap, hpre2, by omega, by omega, ?_, ?_, ?_, ?_⟩
            · rw [e0, e1, e2, e3]
              simp [World.setCell, Array.getElem?_modify, n3]
              try omega
            · simp [World.setCell, Array.getElem?_modify, p3]
            · show World.ownsRow _ _ _ _ _ _ _
              rw [el, accQ_snoc, flat_snoc]
              refine own_move Hown3.out (fun k hk => ?_)
              have := own_base Hown3.out k hk
              repeat rw [Below.heap_setCell _ _ _ _ (by show k ≠ w.heap.size; omega)]
            · repeat (first | exact hbw3 | refine below_set ?_ _ _)
          case measure =>
            exact Key.out _ (by simp [World.cell?, World.setCell, Array.getElem?_modify, n3])
        · have e1 : (accQ (pre ++ [t])).2.wd = (accQ pre).2.wd + 1 := by rw [hq]; show (accQ pre).2.wd + (if 65535 < (pt t : Int) ∧ (pt t : Int) ≤ 1114111 then 2 else 1) = _; rw [hx, if_neg (by omega)]
          have e2 : (accQ (pre ++ [t])).2.ln = (accQ pre).2.ln + 1 := by rw [hq]; show (if (pt t : Int) = 10 then (accQ pre).2.ln + 1 else (accQ pre).2.ln) = _; rw [hx, if_pos c1]
          have e3 : (accQ (pre ++ [t])).2.st = ((pre.length + 1 : Nat) : Int) := by rw [hq]; show (if (pt t : Int) = 10 then (((accQ pre).1.length + 1 : Nat) : Int) else (accQ pre).2.st) = _; rw [hx, if_pos c1, hal]
          clear hx hq
          go_wp2
          go_roundw
          case rel =>
            refine ⟨pre ++ [t], .slice (some ⟨g, 0, none⟩) (pre.length + 1) cap, hpre2, by omega, by omega, ?_, ?_, ?_, ?_⟩
            · rw [e0, e1, e2, e3]
              simp [World.setCell, Array.getElem?_modify, n3]
              try omega
            · simp [World.setCell, Array.getElem?_modify, p3]
            · show World.ownsRow _ _ _ _ _ _ _
              rw [el, accQ_snoc, flat_snoc]
              refine own_move Hown3.out (fun k hk => ?_)
              have := own_base Hown3.out k hk
              repeat rw [Below.heap_setCell _ _ _ _ (by show k ≠ w.heap.size; omega)]
            · repeat (first | exact hbw3 | refine below_set ?_ _ _)
          case measure =>
            exact Key.out _ (by simp [World.cell?, World.setCell, Array.getElem?_modify, n3])
        · have e1 : (accQ (pre ++ [t])).2.wd = (accQ pre).2.wd + 1 := by rw [hq]; show (accQ pre).2.wd + (if 65535 < (pt t : Int) ∧ (pt t : Int) ≤ 1114111 then 2 else 1) = _; rw [hx, if_neg (by omega)]
          have e2 : (accQ (pre ++ [t])).2.ln = (accQ pre).2.ln := by rw [hq]; show (if (pt t : Int) = 10 then (accQ pre).2.ln + 1 else (accQ pre).2.ln) = _; rw [hx, if_neg c2]
          have e3 : (accQ (pre ++ [t])).2.st = (accQ pre).2.st := by rw [hq]; show (if (pt t : Int) = 10 then (((accQ pre).1.length + 1 : Nat) : Int) else (accQ pre).2.st) = _; rw [hx, if_neg c2]
          clear hx hq
          go_wp2
          go_roundw
          case rel =>
            refine ⟨pre ++ [t], .slice (some ⟨g, 0, none⟩) (pre.length + 1) cap, hpre2, by omega, by omega, ?_, ?_, ?_, ?_⟩
            · rw [e0, e1, e2, e3]
              simp [World.setCell, Array.getElem?_modify, n3]
              try omega
            · simp [World.setCell, Array.getElem?_modify, p3]
            · show World.ownsRow _ _ _ _ _ _ _
              rw [el, accQ_snoc, flat_snoc]
              refine own_move Hown3.out (fun k hk => ?_)
              have := own_base Hown3.out k hk
              repeat rw [Below.heap_setCell _ _ _ _ (by show k ≠ w.heap.size; omega)]
            · repeat (first | exact hbw3 | refine below_set ?_ _ _)
          case measure =>
            exact Key.out _ (by simp [World.cell?, World.setCell, Array.getElem?_modify, n3])
        · have e1 : (accQ (pre ++ [t])).2.wd = (accQ pre).2.wd + 1 := by rw [hq]; show (accQ pre).2.wd + (if 65535 < (pt t : Int) ∧ (pt t : Int) ≤ 1114111 then 2 else 1) = _; rw [hx, if_neg (by omega)]
          have e2 : (accQ (pre ++ [t])).2.ln = (accQ pre).2.ln := by rw [hq]; show (if (pt t : Int) = 10 then (accQ pre).2.ln + 1 else (accQ pre).2.ln) = _; rw [hx, if_neg (by omega)]
          have e3 : (accQ (pre ++ [t])).2.st = (accQ pre).2.st := by rw [hq]; show (if (pt t : Int) = 10 then (((accQ pre).1.length + 1 : Nat) : Int) else (accQ pre).2.st) = _; rw [hx, if_neg (by omega)]
          clear hx hq
          go_wp2
          go_roundw
          case rel =>
            refine ⟨pre ++ [t], .slice (some ⟨g, 0, none⟩) (pre.length + 1) cap, hpre2, by omega, by omega, ?_, ?_, ?_, ?_⟩
            · rw [e0, e1, e2, e3]
              simp [World.setCell, Array.getElem?_modify, n3]
              try omega
            · simp [World.setCell, Array.getElem?_modify, p3]
            · show World.ownsRow _ _ _ _ _ _ _
              rw [el, accQ_snoc, flat_snoc]
              refine own_move Hown3.out (fun k hk => ?_)
              have := own_base Hown3.out k hk
              repeat rw [Below.heap_setCell _ _ _ _ (by show k ≠ w.heap.size; omega)]
            · repeat (first | exact hbw3 | refine below_set ?_ _ _)
          case measure =>
            exact Key.out _ (by simp [World.cell?, World.setCell, Array.getElem?_modify, n3])
    · have hdone : sfx (bl s) = pre := by
        have h1 := hpre.out
        rw [List.drop_of_length_le (by rw [bl_len]; omega), sfx_nil, List.append_nil] at h1
        exact h1
      go_wp2_with fail
      go_region_law (refine step_append_lies _ rfl (.tmp 66) (.tmp 68) 100 rfl (w.heap.size + 2) 99 i0 (.agg #[.int .i64 0, .int .i64 0, .int .i64 0, .int .i64 0]) 4 32 Tryd.underlying100 hi hz0 hz1 hz2 rfl (by decide) v pre.length (flat (accQ pre).1) (by simp [Act.eval, Act.put]) HownX.out ⟨wr.heap.size, 0, none⟩ 1 1 (accQ pre).2.cells (by simp [Act.eval, Act.put]) rfl Hnews.out (by intro u hu; rw [now_cells] at hu; simp at hu; rcases hu with rfl | rfl | rfl | rfl <;> rfl) (by decide) (by unfold maxLen; omega) (by omega) (by simp; omega) _ rfl ?_; intro g cap w1 hown1 hgrow1 hat hlt1; obtain ⟨p1, n1, kp1, fz1, hb1⟩ := hstep w1 hgrow1; have Hown1 := Lib.hid hown1; clear hown1)
      all_goals
        have p2 := cell_modify p1 0 (.slice (some ⟨g, 0, none⟩) (pre.length + 1) cap)
        have Hown2 : Hid ((w1.setCell ⟨w.heap.size + 1, 0, none⟩ (.slice (some ⟨g, 0, none⟩) (pre.length + 1) cap)).ownsRow (w.heap.size + 2) 99 4 (.slice (some ⟨g, 0, none⟩) (pre.length + 1) cap) (pre.length + 1) (flat (accQ pre).1 ++ (accQ pre).2.cells)) :=
          own_move Hown1.out (fun k hk => Below.heap_setCell w1 ⟨w.heap.size + 1, 0, none⟩ _ k (by have := own_base Hown1.out k hk; show k ≠ w.heap.size + 1; omega))
        have hb2 : Below w.heap.size w (w1.setCell ⟨w.heap.size + 1, 0, none⟩ (.slice (some ⟨g, 0, none⟩) (pre.length + 1) cap)) := hb1.setCell (p := ⟨w.heap.size + 1, 0, none⟩) (by show w.heap.size ≤ w.heap.size + 1; omega) _
        go_wp2
        go_ret
        refine ⟨rfl, hb2, .slice (some ⟨g, 0, none⟩) (pre.length + 1) cap, p2, ?_⟩
        rw [hdone, flat_snoc]
        exact Hown2.out
end Go.Proofs.YtbkimhbpcmbflaaDoor.C
set_option linter.unusedVariables false
set_option linter.unusedSimpArgs false
namespace Go.Proofs.YtbkimhbpcmbflaaDoor.C
open Go Go.RowKit Go.Proofs.YtbkimhbpcmbflaaDoor.M Go.Proofs.YtbkimhbpcmbflaaDoor.E Go.Proofs.YtbkimhbpcmbflaaDoor.PAll Go.Proofs.YtbkimhbpcmbflaaDoorW.PrintWords Go.Proofs.YtbkimhbpcmbflaaDoorW.PrintMore
attribute [local go_sem] max2_int min2_int max_two min_two
/-- what Measure made of the units us lies at block p -/
def PL (w : World) (B p : Nat) (us : List (List UInt8)) : Prop := ∃ g cap, p < B ∧ g < B ∧ us.length + 1 ≤ cap ∧ w.cell? ⟨p, 0, none⟩ = some (.slice (some ⟨g, 0, none⟩) (us.length + 1) cap) ∧
  ∀ i, i ≤ us.length → w.cell? ⟨g, i * 4, none⟩ = some (.int .i64 (off us i : Nat)) ∧ w.cell? ⟨g, i * 4 + 1, none⟩ = some (.int .i64 (accQ (us.take i)).2.wd) ∧ w.cell? ⟨g, i * 4 + 2, none⟩ = some (.int .i64 (accQ (us.take i)).2.ln) ∧ w.cell? ⟨g, i * 4 + 3, none⟩ = some (.int .i64 (accQ (us.take i)).2.st)
theorem PL.below {w w' : World} {B B' p : Nat} {us : List (List UInt8)} (h : PL w B p us) (hb : Below B' w w') (hB : B ≤ B') : PL w' B p us := by
  obtain ⟨g, cap, h1, h2, h3, h4, h5⟩ := h
  refine ⟨g, cap, h1, h2, h3, (hb.cell (p := ⟨p, 0, none⟩) (by show p < B'; omega)).trans h4, fun i hi => ?_⟩
  obtain ⟨k1, k2, k3, k4⟩ := h5 i hi
  have hg : g < B' := by omega
  exact ⟨(hb.cell (p := ⟨g, _, none⟩) hg).trans k1, (hb.cell (p := ⟨g, _, none⟩) hg).trans k2, (hb.cell (p := ⟨g, _, none⟩) hg).trans k3, (hb.cell (p := ⟨g, _, none⟩) hg).trans k4⟩
theorem PL.more {w : World} {B B' p : Nat} {us : List (List UInt8)} (h : PL w B p us) (hB : B ≤ B') : PL w B' p us := by
  obtain ⟨g, cap, h1, h2, h3, h4, h5⟩ := h
  exact ⟨g, cap, by omega, by omega, h3, h4, h5⟩
theorem flat_get : ∀ (qs : List Q) (i j : Nat) (q : Q), qs[i]? = some q → j < 4 → (flat qs)[i * 4 + j]? = q.cells[j]?
  | [], i, j, q, h, hj => by simp at h
  | a :: qs, 0, j, q, h, hj => by
    simp at h
    subst h
    unfold flat
    rw [List.flatMap_cons, List.getElem?_append_left (by show 0 * 4 + j < 4; omega)]
    simp
  | a :: qs, i + 1, j, q, h, hj => by
    rw [List.getElem?_cons_succ] at h
    have := flat_get qs i j q h hj
    unfold flat at this ⊢
    rw [List.flatMap_cons, List.getElem?_append_right (by show 4 ≤ (i + 1) * 4 + j; omega), ← this]
    congr 1
    show (i + 1) * 4 + j - 4 = _
    omega
theorem PL_of {w : World} {p base : Nat} {v : Value} {us : List (List UInt8)} (h1 : w.heap[p]? = some (.cells #[v] 102 (0, 0))) (h2 : w.ownsRow base 99 4 v (us.length + 1) (flat ((accQ us).1 ++ [(accQ us).2]))) : PL w w.heap.size p us := by
  obtain ⟨g, cap, rfl, hb, hlt⟩ := h2.form (by omega)
  have hc : us.length + 1 ≤ cap := by
    rcases h2.2 with ⟨h, _⟩ | ⟨g', cap', cur, he, _, _, hn, _⟩
    · cases h
    · cases he; omega
  refine ⟨g, cap, (Array.getElem?_eq_some_iff.1 h1).1, hlt, hc, cell_of_row _ _ _ _ _ _ h1, fun i hi => ?_⟩
  have hq := accQ_get us i hi
  have key : ∀ j u, j < 4 → (accQ (us.take i)).2.cells[j]? = some u → w.cell? ⟨g, i * 4 + j, none⟩ = some u := fun j u hj hu => by
    have := World.ownsRow.cells h2 (g := g) rfl (i * 4 + j) u (by rw [flat_get _ i j _ hq hj]; exact hu)
    have ea : (⟨g, 0, none⟩ : Addr).add (i * 4 + j) = ⟨g, i * 4 + j, none⟩ := by unfold Addr.add; split <;> simp_all
    rw [ea] at this
    exact this
  have e0 : (accQ (us.take i)).2.b = (off us i : Nat) := (accQ_what _).1
  have k0 := key 0 _ (by omega) rfl
  rw [e0] at k0
  exact ⟨k0, key 1 _ (by omega) rfl, key 2 _ (by omega) rfl, key 3 _ (by omega) rfl⟩
set_option maxHeartbeats 1000000 in
set_option maxRecDepth 1000000 in
theorem units_any (w : World) (B p : Nat) (us : List (List UInt8)) (h : PL w B p us) (hl : us.length ≤ 1048576) :
    Calls Tryd.prog 52 #[.pointer (some ⟨p, 0, none⟩)] w fun e w' => e = .returned (.int .i64 (us.length : Nat)) ∧ w = w' := by
  obtain ⟨g, cap, h1, h2, h3, h4, h5⟩ := h
  obtain ⟨n, hn⟩ : ∃ n, us.length = n := ⟨_, rfl⟩
  rw [hn] at h4 hl ⊢
  have hw : wrap64 (((n + 1 : Nat) : Int) - 1) = (n : Int) := by rw [w64 (by omega) (by omega)]; omega
  clear h5 h3 hn
  go_enter Tryd.func52, Tryd.ntmps52
  go_wp2
  go_ret
  exact ⟨rfl, rfl⟩
theorem PL.heap {w w' : World} {B p : Nat} {us : List (List UInt8)} (h : PL w B p us) (e : w'.heap = w.heap) : PL w' B p us := by
  have hc : ∀ a, w'.cell? a = w.cell? a := fun a => by simp [World.cell?, e]
  obtain ⟨g, cap, h1, h2, h3, h4, h5⟩ := h
  exact ⟨g, cap, h1, h2, h3, by rw [hc]; exact h4, fun i hi => by rw [hc, hc, hc, hc]; exact h5 i hi⟩
theorem drewN_heap (w : World) (n : Nat) : (w.drewN n).heap = w.heap := by simp
set_option maxHeartbeats 1000000 in
set_option maxRecDepth 1000000 in
theorem byte_any (w : World) (B p : Nat) (us : List (List UInt8)) (h : PL w B p us) (hl : us.length ≤ 1048576) (u : Int) :
    Calls Tryd.prog 55 #[.pointer (some ⟨p, 0, none⟩), .int .i64 u] w fun e w' => e = .returned (.int .i64 (off us (clampN us.length u) : Nat)) ∧ Below w.heap.size w w' := by
  have cU := fun k => (units_any (w.drewN k) B p us (h.heap (drewN_heap w k)) hl).mono (R' := fun e w' => e = .returned (.int .i64 (us.length : Nat)) ∧ w' = w.drewN k) (fun e w' ⟨a, b⟩ => ⟨a, b.symm⟩)
  obtain ⟨g, cap, h1, h2, h3, h4, h5⟩ := h
  obtain ⟨n, hn⟩ : ∃ n, us.length = n := ⟨_, rfl⟩
  obtain ⟨c, hc⟩ : ∃ c, clampN us.length u = c := ⟨_, rfl⟩
  have hcn : c ≤ us.length := by rw [← hc]; unfold clampN; omega
  have k0 := (h5 c hcn).1
  rw [hc]
  have hcases : (u < 0 ∧ c = 0) ∨ (0 ≤ u ∧ u ≤ us.length ∧ (c : Int) = u) ∨ ((us.length : Int) < u ∧ c = us.length) := by rw [← hc]; unfold clampN; omega
  rw [hn] at h4 hl cU hcn hcases h3
  generalize (off us c : Nat) = r at k0 ⊢
  clear h5 hn hc
  rcases hcases with ⟨c1, c2⟩ | ⟨c1, c2, c3⟩ | ⟨c1, c2⟩
  · subst c2
    go_enter Tryd.func55, Tryd.ntmps55
    go_wp2_with fail
    go_quiet (first | (go_at_call 52; exact Calls.quiet_of_same (cU _)))
    go_wp2
    go_ret
    exact ⟨rfl, Drawn0.below ⟨⟨_, rfl⟩⟩⟩
  · subst c3
    have c4 : ¬ ((n : Int) < (c : Int)) := by omega
    by_cases c0 : c = 0
    · subst c0
      go_enter Tryd.func55, Tryd.ntmps55
      go_wp2_with fail
      go_quiet (first | (go_at_call 52; exact Calls.quiet_of_same (cU _)))
      go_wp2
      go_ret
      exact ⟨rfl, Drawn0.below ⟨⟨_, rfl⟩⟩⟩
    have c5 : (0 : Int) < (c : Int) := by omega
    go_enter Tryd.func55, Tryd.ntmps55
    go_wp2_with fail
    go_quiet (first | (go_at_call 52; exact Calls.quiet_of_same (cU _)))
    go_wp2
    go_ret
    exact ⟨rfl, Drawn0.below ⟨⟨_, rfl⟩⟩⟩
  · subst c2
    have c6 : (0 : Int) ≤ (c : Int) := by omega
    by_cases c0 : c = 0
    · subst c0
      go_enter Tryd.func55, Tryd.ntmps55
      go_wp2_with fail
      go_quiet (first | (go_at_call 52; exact Calls.quiet_of_same (cU _)))
      go_wp2
      go_ret
      exact ⟨rfl, Drawn0.below ⟨⟨_, rfl⟩⟩⟩
    have c5 : (0 : Int) < (c : Int) := by omega
    go_enter Tryd.func55, Tryd.ntmps55
    go_wp2_with fail
    go_quiet (first | (go_at_call 52; exact Calls.quiet_of_same (cU _)))
    go_wp2
    go_ret
    exact ⟨rfl, Drawn0.below ⟨⟨_, rfl⟩⟩⟩
def clampA (m : Nat) (a : Int) : Nat := (min a (m : Int)).toNat
theorem IsU_of {l : List UInt8} {a : Int} {i : Nat} (hi : i ≤ (sfx l).length) (h1 : off (sfx l) i ≤ clampA l.length a) (h2 : i < (sfx l).length → clampA l.length a < off (sfx l) (i + 1)) : IsU l a i := by
  refine ⟨hi, ?_, fun h => ?_⟩
  · rcases Nat.eq_zero_or_pos i with h0 | h0
    · exact .inl h0
    · right
      have := off_ge l i hi
      unfold clampA at h1
      omega
  · have := h2 h
    have h3 := off_le l (i := i + 1) (by omega)
    unfold clampA at this
    omega
set_option maxHeartbeats 2000000 in
set_option maxRecDepth 1000000 in
theorem unit_any (w : World) (B p : Nat) (l : List UInt8) (h : PL w B p (sfx l)) (hl : l.length ≤ 1048576) (a : Int) :
    Calls Tryd.prog 64 #[.pointer (some ⟨p, 0, none⟩), .int .i64 a] w fun e w' => ∃ i, IsU l a i ∧ e = .returned (.tuple #[.int .i64 (i : Nat), .bool ((off (sfx l) i : Int) == (clampA l.length a : Int))]) ∧ Below w.heap.size w w' := by
  have hsl := sfx_len l
  have cU := fun k => (units_any (w.drewN k) B p (sfx l) (h.heap (drewN_heap w k)) (by omega)).mono (R' := fun e w' => e = .returned (.int .i64 ((sfx l).length : Nat)) ∧ w' = w.drewN k) (fun e w' ⟨a, b⟩ => ⟨a, b.symm⟩)
  obtain ⟨g, cap, h1, h2, h3, h4, h5⟩ := h
  obtain ⟨n, hn⟩ : ∃ n, (sfx l).length = n := ⟨_, rfl⟩
  have kN := (h5 (sfx l).length (Nat.le_refl _)).1
  rw [off_total] at kN
  obtain ⟨m, hm⟩ : ∃ m, l.length = m := ⟨_, rfl⟩
  obtain ⟨x, hx⟩ : ∃ x, clampA l.length a = x := ⟨_, rfl⟩
  have hcases : (a < 0 ∧ x = 0) ∨ (0 ≤ a ∧ a ≤ m ∧ (x : Int) = a) ∨ ((m : Int) < a ∧ x = m) := by rw [← hx, ← hm]; unfold clampA; omega
  have hcell : Hid (∀ i, i ≤ n → w.cell? ⟨g, i * 4, none⟩ = some (.int .i64 (off (sfx l) i : Nat))) := fun i hi => (h5 i (by omega)).1
  have Hn := Lib.hid hn
  have Hm := Lib.hid hm
  have Hx := Lib.hid hx
  have hm20 : m ≤ 1048576 := by omega
  have hn20 : n ≤ 1048576 := by omega
  rw [hn] at h4 cU h3 kN
  rw [hm] at kN
  rw [hx]
  clear h5 hn hm hx
  rcases hcases with ⟨c1, c2⟩ | ⟨c1, c2, c3⟩ | ⟨c1, c2⟩
  · subst c2
    go_enter Tryd.func64, Tryd.ntmps64
    go_wp2_with fail
    go_quiet (first | (go_at_call 52; exact Calls.quiet_of_same (cU _)))
    go_wp2_with (first | (go_at_call 52; refine (cU _).mono ?_; rintro e w1 ⟨rfl, rfl⟩))
    go_loopw [6, 7] (fun iv jv wr => ∃ i j : Nat, iv = .int .i64 i ∧ jv = .int .i64 j ∧ i ≤ j ∧ j ≤ n ∧ Hid (off (sfx l) i ≤ 0) ∧ Hid (j < n → 0 < off (sfx l) (j + 1)) ∧ Hid (wr.heap = w.heap) ∧ Below w.heap.size w wr)
      (fun iv jv _ => (intOf jv - intOf iv).toNat)
    case atStart =>
      exact ⟨0, n, rfl, rfl, by omega, by omega, by show off (sfx l) 0 ≤ _; rw [off_zero]; omega, fun hh => by omega, drewN_heap w _, Drawn0.below ⟨⟨_, rfl⟩⟩⟩
    case round =>
      obtain ⟨i, j, rfl, rfl, hij, hjn, hoi, hoj, hwh, hbw⟩ := hrel
      have hcw : Hid (∀ k, k ≤ n → wr.cell? ⟨g, k * 4, none⟩ = some (.int .i64 (off (sfx l) k : Nat))) := fun k hk => by
        rw [show wr.cell? ⟨g, k * 4, none⟩ = w.cell? ⟨g, k * 4, none⟩ by simp [World.cell?, hwh.out]]
        exact hcell.out k hk
      have k4 : wr.cell? ⟨p, 0, none⟩ = some (.slice (some ⟨g, 0, none⟩) (n + 1) cap) := by
        rw [show wr.cell? ⟨p, 0, none⟩ = w.cell? ⟨p, 0, none⟩ by simp [World.cell?, hwh.out]]
        exact h4
      by_cases hlt : i < j
      · obtain ⟨md, hmd⟩ : ∃ md, (i + j + 1) / 2 = md := ⟨_, rfl⟩
        have hmI : Int.tdiv ((i : Int) + (j : Int) + 1) 2 = (md : Int) := by rw [Int.tdiv_eq_ediv_of_nonneg (by omega)]; omega
        have hm1 : i < md := by omega
        have hm2 : md ≤ j := by omega
        have km := hcw.out md (by omega)
        clear hmd
        by_cases hc : off (sfx l) md ≤ 0
        · have hcI : (off (sfx l) md : Int) ≤ 0 := by omega
          go_wp2
          go_roundw
          case rel => exact ⟨md, j, rfl, rfl, hm2, hjn, hc, hoj, hwh, hbw⟩
          case measure => simp [intOf]; omega
        · have hcI : 0 < (off (sfx l) md : Int) := by omega
          have hmd1 : wrap64 ((md : Int) - 1) = ((md - 1 : Nat) : Int) := by rw [w64 (by omega) (by omega)]; omega
          go_wp2
          go_roundw
          case rel =>
            refine ⟨i, md - 1, rfl, by go_num, by omega, by omega, hoi, ?_, hwh, hbw⟩
            show md - 1 < n → 0 < off (sfx l) (md - 1 + 1)
            rw [show md - 1 + 1 = md by omega]
            intro _
            omega
          case measure => simp [intOf]; omega
      · obtain rfl : i = j := by omega
        have ki := hcw.out i hjn
        go_wp2_with fail
        go_quiet (fail)
        go_wp2
        go_ret2
        refine ⟨i, IsU_of (by have := Hn.out; omega) (by rw [Hx.out]; exact hoi.out) (fun hh => by rw [Hx.out]; exact hoj.out (by have := Hn.out; omega)), rfl, ?_⟩
        exact hbw.trans ((Drawn0.below ⟨⟨_, rfl⟩⟩).mono hbw.size)
  · subst c3
    by_cases c0 : x = 0
    · subst c0
      go_enter Tryd.func64, Tryd.ntmps64
      go_wp2_with fail
      go_quiet (first | (go_at_call 52; exact Calls.quiet_of_same (cU _)))
      go_wp2_with (first | (go_at_call 52; refine (cU _).mono ?_; rintro e w1 ⟨rfl, rfl⟩))
      go_loopw [6, 7] (fun iv jv wr => ∃ i j : Nat, iv = .int .i64 i ∧ jv = .int .i64 j ∧ i ≤ j ∧ j ≤ n ∧ Hid (off (sfx l) i ≤ 0) ∧ Hid (j < n → 0 < off (sfx l) (j + 1)) ∧ Hid (wr.heap = w.heap) ∧ Below w.heap.size w wr)
        (fun iv jv _ => (intOf jv - intOf iv).toNat)
      case atStart =>
        exact ⟨0, n, rfl, rfl, by omega, by omega, by show off (sfx l) 0 ≤ _; rw [off_zero]; omega, fun hh => by omega, drewN_heap w _, Drawn0.below ⟨⟨_, rfl⟩⟩⟩
      case round =>
        obtain ⟨i, j, rfl, rfl, hij, hjn, hoi, hoj, hwh, hbw⟩ := hrel
        have hcw : Hid (∀ k, k ≤ n → wr.cell? ⟨g, k * 4, none⟩ = some (.int .i64 (off (sfx l) k : Nat))) := fun k hk => by
          rw [show wr.cell? ⟨g, k * 4, none⟩ = w.cell? ⟨g, k * 4, none⟩ by simp [World.cell?, hwh.out]]
          exact hcell.out k hk
        have k4 : wr.cell? ⟨p, 0, none⟩ = some (.slice (some ⟨g, 0, none⟩) (n + 1) cap) := by
          rw [show wr.cell? ⟨p, 0, none⟩ = w.cell? ⟨p, 0, none⟩ by simp [World.cell?, hwh.out]]
          exact h4
        by_cases hlt : i < j
        · obtain ⟨md, hmd⟩ : ∃ md, (i + j + 1) / 2 = md := ⟨_, rfl⟩
          have hmI : Int.tdiv ((i : Int) + (j : Int) + 1) 2 = (md : Int) := by rw [Int.tdiv_eq_ediv_of_nonneg (by omega)]; omega
          have hm1 : i < md := by omega
          have hm2 : md ≤ j := by omega
          have km := hcw.out md (by omega)
          clear hmd
          by_cases hc : off (sfx l) md ≤ 0
          · have hcI : (off (sfx l) md : Int) ≤ 0 := by omega
            go_wp2
            go_roundw
            case rel => exact ⟨md, j, rfl, rfl, hm2, hjn, hc, hoj, hwh, hbw⟩
            case measure => simp [intOf]; omega
          · have hcI : 0 < (off (sfx l) md : Int) := by omega
            have hmd1 : wrap64 ((md : Int) - 1) = ((md - 1 : Nat) : Int) := by rw [w64 (by omega) (by omega)]; omega
            go_wp2
            go_roundw
            case rel =>
              refine ⟨i, md - 1, rfl, by go_num, by omega, by omega, hoi, ?_, hwh, hbw⟩
              show md - 1 < n → 0 < off (sfx l) (md - 1 + 1)
              rw [show md - 1 + 1 = md by omega]
              intro _
              omega
            case measure => simp [intOf]; omega
        · obtain rfl : i = j := by omega
          have ki := hcw.out i hjn
          go_wp2_with fail
          go_quiet (fail)
          go_wp2
          go_ret2
          refine ⟨i, IsU_of (by have := Hn.out; omega) (by rw [Hx.out]; exact hoi.out) (fun hh => by rw [Hx.out]; exact hoj.out (by have := Hn.out; omega)), rfl, ?_⟩
          exact hbw.trans ((Drawn0.below ⟨⟨_, rfl⟩⟩).mono hbw.size)
    have c5 : (0 : Int) < (x : Int) := by omega
    go_enter Tryd.func64, Tryd.ntmps64
    go_wp2_with fail
    go_quiet (first | (go_at_call 52; exact Calls.quiet_of_same (cU _)))
    go_wp2_with (first | (go_at_call 52; refine (cU _).mono ?_; rintro e w1 ⟨rfl, rfl⟩))
    go_loopw [6, 7] (fun iv jv wr => ∃ i j : Nat, iv = .int .i64 i ∧ jv = .int .i64 j ∧ i ≤ j ∧ j ≤ n ∧ Hid (off (sfx l) i ≤ x) ∧ Hid (j < n → x < off (sfx l) (j + 1)) ∧ Hid (wr.heap = w.heap) ∧ Below w.heap.size w wr)
      (fun iv jv _ => (intOf jv - intOf iv).toNat)
    case atStart =>
      exact ⟨0, n, rfl, rfl, by omega, by omega, by show off (sfx l) 0 ≤ _; rw [off_zero]; omega, fun hh => by omega, drewN_heap w _, Drawn0.below ⟨⟨_, rfl⟩⟩⟩
    case round =>
      obtain ⟨i, j, rfl, rfl, hij, hjn, hoi, hoj, hwh, hbw⟩ := hrel
      have hcw : Hid (∀ k, k ≤ n → wr.cell? ⟨g, k * 4, none⟩ = some (.int .i64 (off (sfx l) k : Nat))) := fun k hk => by
        rw [show wr.cell? ⟨g, k * 4, none⟩ = w.cell? ⟨g, k * 4, none⟩ by simp [World.cell?, hwh.out]]
        exact hcell.out k hk
      have k4 : wr.cell? ⟨p, 0, none⟩ = some (.slice (some ⟨g, 0, none⟩) (n + 1) cap) := by
        rw [show wr.cell? ⟨p, 0, none⟩ = w.cell? ⟨p, 0, none⟩ by simp [World.cell?, hwh.out]]
        exact h4
      by_cases hlt : i < j
      · obtain ⟨md, hmd⟩ : ∃ md, (i + j + 1) / 2 = md := ⟨_, rfl⟩
        have hmI : Int.tdiv ((i : Int) + (j : Int) + 1) 2 = (md : Int) := by rw [Int.tdiv_eq_ediv_of_nonneg (by omega)]; omega
        have hm1 : i < md := by omega
        have hm2 : md ≤ j := by omega
        have km := hcw.out md (by omega)
        clear hmd
        by_cases hc : off (sfx l) md ≤ x
        · have hcI : (off (sfx l) md : Int) ≤ (x : Int) := by omega
          go_wp2
          go_roundw
          case rel => exact ⟨md, j, rfl, rfl, hm2, hjn, hc, hoj, hwh, hbw⟩
          case measure => simp [intOf]; omega
        · have hcI : (x : Int) < (off (sfx l) md : Int) := by omega
          have hmd1 : wrap64 ((md : Int) - 1) = ((md - 1 : Nat) : Int) := by rw [w64 (by omega) (by omega)]; omega
          go_wp2
          go_roundw
          case rel =>
            refine ⟨i, md - 1, rfl, by go_num, by omega, by omega, hoi, ?_, hwh, hbw⟩
            show md - 1 < n → x < off (sfx l) (md - 1 + 1)
            rw [show md - 1 + 1 = md by omega]
            intro _
            omega
          case measure => simp [intOf]; omega
      · obtain rfl : i = j := by omega
        have ki := hcw.out i hjn
        go_wp2_with fail
        go_quiet (fail)
        go_wp2
        go_ret2
        refine ⟨i, IsU_of (by have := Hn.out; omega) (by rw [Hx.out]; exact hoi.out) (fun hh => by rw [Hx.out]; exact hoj.out (by have := Hn.out; omega)), rfl, ?_⟩
        exact hbw.trans ((Drawn0.below ⟨⟨_, rfl⟩⟩).mono hbw.size)
  · subst c2
    by_cases c0 : x = 0
    · subst c0
      go_enter Tryd.func64, Tryd.ntmps64
      go_wp2_with fail
      go_quiet (first | (go_at_call 52; exact Calls.quiet_of_same (cU _)))
      go_wp2_with (first | (go_at_call 52; refine (cU _).mono ?_; rintro e w1 ⟨rfl, rfl⟩))
      go_loopw [6, 7] (fun iv jv wr => ∃ i j : Nat, iv = .int .i64 i ∧ jv = .int .i64 j ∧ i ≤ j ∧ j ≤ n ∧ Hid (off (sfx l) i ≤ 0) ∧ Hid (j < n → 0 < off (sfx l) (j + 1)) ∧ Hid (wr.heap = w.heap) ∧ Below w.heap.size w wr)
        (fun iv jv _ => (intOf jv - intOf iv).toNat)
      case atStart =>
        exact ⟨0, n, rfl, rfl, by omega, by omega, by show off (sfx l) 0 ≤ _; rw [off_zero]; omega, fun hh => by omega, drewN_heap w _, Drawn0.below ⟨⟨_, rfl⟩⟩⟩
      case round =>
        obtain ⟨i, j, rfl, rfl, hij, hjn, hoi, hoj, hwh, hbw⟩ := hrel
        have hcw : Hid (∀ k, k ≤ n → wr.cell? ⟨g, k * 4, none⟩ = some (.int .i64 (off (sfx l) k : Nat))) := fun k hk => by
          rw [show wr.cell? ⟨g, k * 4, none⟩ = w.cell? ⟨g, k * 4, none⟩ by simp [World.cell?, hwh.out]]
          exact hcell.out k hk
        have k4 : wr.cell? ⟨p, 0, none⟩ = some (.slice (some ⟨g, 0, none⟩) (n + 1) cap) := by
          rw [show wr.cell? ⟨p, 0, none⟩ = w.cell? ⟨p, 0, none⟩ by simp [World.cell?, hwh.out]]
          exact h4
        by_cases hlt : i < j
        · obtain ⟨md, hmd⟩ : ∃ md, (i + j + 1) / 2 = md := ⟨_, rfl⟩
          have hmI : Int.tdiv ((i : Int) + (j : Int) + 1) 2 = (md : Int) := by rw [Int.tdiv_eq_ediv_of_nonneg (by omega)]; omega
          have hm1 : i < md := by omega
          have hm2 : md ≤ j := by omega
          have km := hcw.out md (by omega)
          clear hmd
          by_cases hc : off (sfx l) md ≤ 0
          · have hcI : (off (sfx l) md : Int) ≤ 0 := by omega
            go_wp2
            go_roundw
            case rel => exact ⟨md, j, rfl, rfl, hm2, hjn, hc, hoj, hwh, hbw⟩
            case measure => simp [intOf]; omega
          · have hcI : 0 < (off (sfx l) md : Int) := by omega
            have hmd1 : wrap64 ((md : Int) - 1) = ((md - 1 : Nat) : Int) := by rw [w64 (by omega) (by omega)]; omega
            go_wp2
            go_roundw
            case rel =>
              refine ⟨i, md - 1, rfl, by go_num, by omega, by omega, hoi, ?_, hwh, hbw⟩
              show md - 1 < n → 0 < off (sfx l) (md - 1 + 1)
              rw [show md - 1 + 1 = md by omega]
              intro _
              omega
            case measure => simp [intOf]; omega
        · obtain rfl : i = j := by omega
          have ki := hcw.out i hjn
          go_wp2_with fail
          go_quiet (fail)
          go_wp2
          go_ret2
          refine ⟨i, IsU_of (by have := Hn.out; omega) (by rw [Hx.out]; exact hoi.out) (fun hh => by rw [Hx.out]; exact hoj.out (by have := Hn.out; omega)), rfl, ?_⟩
          exact hbw.trans ((Drawn0.below ⟨⟨_, rfl⟩⟩).mono hbw.size)
    have c5 : (0 : Int) < (x : Int) := by omega
    go_enter Tryd.func64, Tryd.ntmps64
    go_wp2_with fail
    go_quiet (first | (go_at_call 52; exact Calls.quiet_of_same (cU _)))
    go_wp2_with (first | (go_at_call 52; refine (cU _).mono ?_; rintro e w1 ⟨rfl, rfl⟩))
    go_loopw [6, 7] (fun iv jv wr => ∃ i j : Nat, iv = .int .i64 i ∧ jv = .int .i64 j ∧ i ≤ j ∧ j ≤ n ∧ Hid (off (sfx l) i ≤ x) ∧ Hid (j < n → x < off (sfx l) (j + 1)) ∧ Hid (wr.heap = w.heap) ∧ Below w.heap.size w wr)
      (fun iv jv _ => (intOf jv - intOf iv).toNat)
    case atStart =>
      exact ⟨0, n, rfl, rfl, by omega, by omega, by show off (sfx l) 0 ≤ _; rw [off_zero]; omega, fun hh => by omega, drewN_heap w _, Drawn0.below ⟨⟨_, rfl⟩⟩⟩
    case round =>
      obtain ⟨i, j, rfl, rfl, hij, hjn, hoi, hoj, hwh, hbw⟩ := hrel
      have hcw : Hid (∀ k, k ≤ n → wr.cell? ⟨g, k * 4, none⟩ = some (.int .i64 (off (sfx l) k : Nat))) := fun k hk => by
        rw [show wr.cell? ⟨g, k * 4, none⟩ = w.cell? ⟨g, k * 4, none⟩ by simp [World.cell?, hwh.out]]
        exact hcell.out k hk
      have k4 : wr.cell? ⟨p, 0, none⟩ = some (.slice (some ⟨g, 0, none⟩) (n + 1) cap) := by
        rw [show wr.cell? ⟨p, 0, none⟩ = w.cell? ⟨p, 0, none⟩ by simp [World.cell?, hwh.out]]
        exact h4
      by_cases hlt : i < j
      · obtain ⟨md, hmd⟩ : ∃ md, (i + j + 1) / 2 = md := ⟨_, rfl⟩
        have hmI : Int.tdiv ((i : Int) + (j : Int) + 1) 2 = (md : Int) := by rw [Int.tdiv_eq_ediv_of_nonneg (by omega)]; omega
        have hm1 : i < md := by omega
        have hm2 : md ≤ j := by omega
        have km := hcw.out md (by omega)
        clear hmd
        by_cases hc : off (sfx l) md ≤ x
        · have hcI : (off (sfx l) md : Int) ≤ (x : Int) := by omega
          go_wp2
          go_roundw
          case rel => exact ⟨md, j, rfl, rfl, hm2, hjn, hc, hoj, hwh, hbw⟩
          case measure => simp [intOf]; omega
        · have hcI : (x : Int) < (off (sfx l) md : Int) := by omega
          have hmd1 : wrap64 ((md : Int) - 1) = ((md - 1 : Nat) : Int) := by rw [w64 (by omega) (by omega)]; omega
          go_wp2
          go_roundw
          case rel =>
            refine ⟨i, md - 1, rfl, by go_num, by omega, by omega, hoi, ?_, hwh, hbw⟩
            show md - 1 < n → x < off (sfx l) (md - 1 + 1)
            rw [show md - 1 + 1 = md by omega]
            intro _
            omega
          case measure => simp [intOf]; omega
      · obtain rfl : i = j := by omega
        have ki := hcw.out i hjn
        go_wp2_with fail
        go_quiet (fail)
        go_wp2
        go_ret2
        refine ⟨i, IsU_of (by have := Hn.out; omega) (by rw [Hx.out]; exact hoi.out) (fun hh => by rw [Hx.out]; exact hoj.out (by have := Hn.out; omega)), rfl, ?_⟩
        exact hbw.trans ((Drawn0.below ⟨⟨_, rfl⟩⟩).mono hbw.size)
end Go.Proofs.YtbkimhbpcmbflaaDoor.C
set_option linter.unusedVariables false
set_option linter.unusedSimpArgs false
namespace Go.Proofs.YtbkimhbpcmbflaaDoor.C
open Go Go.RowKit Go.Proofs.YtbkimhbpcmbflaaDoor.M Go.Proofs.YtbkimhbpcmbflaaDoor.E Go.Proofs.YtbkimhbpcmbflaaDoor.PAll Go.Proofs.YtbkimhbpcmbflaaDoorW.PrintWords
theorem qpts_take (l : List UInt8) (i : Nat) : qpts ((sfx l).take i) = (pts l).take i := by unfold qpts pts; rw [List.map_take]
set_option maxHeartbeats 1000000 in
set_option maxRecDepth 1000000 in
theorem wide_any (w : World) (B p : Nat) (l : List UInt8) (h : PL w B p (sfx l)) (hBw : B ≤ w.heap.size) (hl : l.length ≤ 1048576) (a : Int) (i : Nat) (hi : IsU l a i) :
    Calls Tryd.prog 62 #[.pointer (some ⟨p, 0, none⟩), .int .i64 a] w fun e w' => e = .returned (.int .i64 (wsum ((pts l).take i))) ∧ Below w.heap.size w w' := by
  have hsl := sfx_len l
  have cU := (unit_any w B p l h hl a).mono (R' := fun e w' => ∃ b, e = .returned (.tuple #[.int .i64 (i : Nat), .bool b]) ∧ PL w' B p (sfx l) ∧ Below w.heap.size w w') (fun e w' ⟨j, hj, he, hb⟩ => by
    obtain rfl := hj.unique hi
    exact ⟨_, he, h.below hb hBw, hb⟩)
  have e1 := (accQ_what ((sfx l).take i)).2.1
  rw [qpts_take] at e1
  rw [← e1]
  have hin := hi.1
  obtain ⟨n, hn⟩ : ∃ n, (sfx l).length = n := ⟨_, rfl⟩
  rw [hn] at hin
  go_enter Tryd.func62, Tryd.ntmps62
  go_wp2_with fail
  refine cU.mono ?_
  rintro e w1 ⟨b, rfl, hp, hb1⟩
  obtain ⟨g, cap, h1, h2, h3, h4, h5⟩ := hp
  have k1 := (h5 i (by omega)).2.1
  rw [hn] at h4
  clear h5 e1 hi cU
  go_wp2
  go_ret
  exact ⟨rfl, hb1⟩
set_option maxHeartbeats 1000000 in
set_option maxRecDepth 1000000 in
theorem line_any (w : World) (B p : Nat) (l : List UInt8) (h : PL w B p (sfx l)) (hBw : B ≤ w.heap.size) (hl : l.length ≤ 1048576) (a : Int) (i : Nat) (hi : IsU l a i) :
    Calls Tryd.prog 103 #[.pointer (some ⟨p, 0, none⟩), .int .i64 a] w fun e w' => e = .returned (.tuple #[.int .i64 (lfold 1 1 ((pts l).take i)).1, .int .i64 (lfold 1 1 ((pts l).take i)).2]) ∧ Below w.heap.size w w' := by
  have hsl := sfx_len l
  have cU := (unit_any w B p l h hl a).mono (R' := fun e w' => ∃ b, e = .returned (.tuple #[.int .i64 (i : Nat), .bool b]) ∧ PL w' B p (sfx l) ∧ Below w.heap.size w w') (fun e w' ⟨j, hj, he, hb⟩ => by
    obtain rfl := hj.unique hi
    exact ⟨_, he, h.below hb hBw, hb⟩)
  have e1 := (accQ_what ((sfx l).take i)).2.2
  have hin := hi.1
  rw [qpts_take, List.length_take, Nat.min_eq_left hin] at e1
  rw [e1]
  have hbd := accQ_bounds ((sfx l).take i)
  rw [List.length_take, Nat.min_eq_left hin] at hbd
  obtain ⟨-, -, b1, b2, b3, b4⟩ := hbd
  obtain ⟨n, hn⟩ : ∃ n, (sfx l).length = n := ⟨_, rfl⟩
  rw [hn] at hin
  have w1 : wrap64 ((accQ ((sfx l).take i)).2.ln + 1) = (accQ ((sfx l).take i)).2.ln + 1 := w64 (by omega) (by omega)
  show Calls _ _ _ _ fun e w' => e = .returned (.tuple #[.int .i64 ((accQ ((sfx l).take i)).2.ln + 1), .int .i64 ((i : Int) - (accQ ((sfx l).take i)).2.st + 1)]) ∧ Below w.heap.size w w'
  have hk : ∀ W : World, PL W B p (sfx l) → ∃ g cap, n + 1 ≤ cap ∧ W.cell? ⟨p, 0, none⟩ = some (.slice (some ⟨g, 0, none⟩) (n + 1) cap) ∧ W.cell? ⟨g, i * 4 + 2, none⟩ = some (.int .i64 (accQ ((sfx l).take i)).2.ln) ∧ W.cell? ⟨g, i * 4 + 3, none⟩ = some (.int .i64 (accQ ((sfx l).take i)).2.st) := fun W hp => by
    obtain ⟨g, cap, h1, h2, h3, h4, h5⟩ := hp
    obtain ⟨-, -, k2, k3⟩ := h5 i (by omega)
    rw [hn] at h4 h3
    exact ⟨g, cap, h3, h4, k2, k3⟩
  generalize (accQ ((sfx l).take i)).2.ln = x at b1 b2 hk w1 ⊢
  generalize (accQ ((sfx l).take i)).2.st = y at b3 b4 hk ⊢
  go_enter Tryd.func103, Tryd.ntmps103
  go_wp2_with fail
  refine cU.mono ?_
  rintro e w1 ⟨b, rfl, hp, hb1⟩
  obtain ⟨g, cap, h3, h4, k2, k3⟩ := hk _ hp
  clear e1 hi cU hk
  go_wp2_with fail
  go_quiet (fail)
  go_wp2
  go_ret2
  exact ⟨rfl, hb1.trans ((Drawn0.below ⟨⟨_, rfl⟩⟩).mono hb1.size)⟩
end Go.Proofs.YtbkimhbpcmbflaaDoor.C
set_option linter.unusedVariables false
set_option linter.unusedSimpArgs false
namespace Go.Proofs.YtbkimhbpcmbflaaDoor.C
open Go Go.RowKit Go.Proofs.YtbkimhbpcmbflaaDoor.M Go.Proofs.YtbkimhbpcmbflaaDoor.E Go.Proofs.YtbkimhbpcmbflaaDoor.PAll Go.Proofs.YtbkimhbpcmbflaaDoorW.PrintWords
def Sp (w W : World) (B p : Nat) (us : List (List UInt8)) : Prop := PL W B p us ∧ Below w.heap.size w W
theorem Sp.next {w W w' : World} {B p : Nat} {us : List (List UInt8)} (h : Sp w W B p us) (hB : B ≤ w.heap.size) (hb : Below W.heap.size W w') : Sp w w' B p us :=
  ⟨h.1.below hb (Nat.le_trans hB h.2.size), h.2.trans (hb.mono h.2.size)⟩
set_option maxHeartbeats 2000000 in
set_option maxRecDepth 1000000 in
theorem placed_any (w : World) (B p : Nat) (s : ByteArray) (h : PL w B p (sfx (bl s))) (hB : B ≤ w.heap.size) (hs : s.size ≤ 1048576) (n : Int) :
    Calls Tryd.prog 65 #[.pointer (some ⟨p, 0, none⟩), .string s, .int .i64 n] w fun e w' => e = .returned (.bool true) ∧ Below w.heap.size w w' := by
  have hS : Sp w w B p (sfx (bl s)) := ⟨h, Below.refl _ _⟩
  have hl : (bl s).length ≤ 1048576 := by rw [bl_len]; exact hs
  have hsl := sfx_len (bl s)
  obtain ⟨k1, u, hu, hk1⟩ := unit_ref s (by omega) n
  obtain ⟨k2, hk2⟩ := byte_ref s (by omega) n
  obtain ⟨k3, hk3⟩ := wide_ref s hs n u hu
  obtain ⟨k4, hk4⟩ := line_ref s hs n u hu
  have c101 := fun W (h : Sp w W B p (sfx (bl s))) => (glossaryref02_Unit.calls k1 s n _ _ W hk1).mono (R' := fun e w' => e = .returned (.tuple #[.int .i64 (u : Nat), .int .i64 (off (sfx (bl s)) u : Nat)]) ∧ Sp w w' B p (sfx (bl s))) (fun e w' ⟨he, hd⟩ => ⟨he, h.next hB hd.below⟩)
  have c64 := fun W (h : Sp w W B p (sfx (bl s))) => (unit_any W B p (bl s) h.1 hl n).mono (R' := fun e w' => e = .returned (.tuple #[.int .i64 (u : Nat), .bool ((off (sfx (bl s)) u : Int) == (clampA (bl s).length n : Int))]) ∧ Sp w w' B p (sfx (bl s))) (fun e w' ⟨j, hj, he, hb⟩ => by
    obtain rfl := hj.unique hu
    exact ⟨he, h.next hB hb⟩)
  have c102 := fun W (h : Sp w W B p (sfx (bl s))) => (glossaryref02_Line.calls k4 s n (lfold 1 1 ((pts (bl s)).take u)).1 (lfold 1 1 ((pts (bl s)).take u)).2 W hk4).mono (R' := fun e w' => e = .returned (.tuple #[.int .i64 (lfold 1 1 ((pts (bl s)).take u)).1, .int .i64 (lfold 1 1 ((pts (bl s)).take u)).2]) ∧ Sp w w' B p (sfx (bl s))) (fun e w' ⟨he, hd⟩ => ⟨he, h.next hB hd⟩)
  have c103 := fun W (h : Sp w W B p (sfx (bl s))) => (line_any W B p (bl s) h.1 (Nat.le_trans hB h.2.size) hl n u hu).mono (R' := fun e w' => e = .returned (.tuple #[.int .i64 (lfold 1 1 ((pts (bl s)).take u)).1, .int .i64 (lfold 1 1 ((pts (bl s)).take u)).2]) ∧ Sp w w' B p (sfx (bl s))) (fun e w' ⟨he, hd⟩ => ⟨he, h.next hB hd⟩)
  have c55 := fun W (h : Sp w W B p (sfx (bl s))) => (byte_any W B p (sfx (bl s)) h.1 (by omega) n).mono (R' := fun e w' => e = .returned (.int .i64 (off (sfx (bl s)) (clampN (sfx (bl s)).length n) : Nat)) ∧ Sp w w' B p (sfx (bl s))) (fun e w' ⟨he, hd⟩ => ⟨he, h.next hB hd⟩)
  have c104 := fun W (h : Sp w W B p (sfx (bl s))) => (glossaryref02_Byte.calls k2 s n _ W hk2).mono (R' := fun e w' => e = .returned (.int .i64 (off (sfx (bl s)) (clampN (sfx (bl s)).length n) : Nat)) ∧ Sp w w' B p (sfx (bl s))) (fun e w' ⟨he, hd⟩ => ⟨he, h.next hB hd.below⟩)
  have c62 := fun W (h : Sp w W B p (sfx (bl s))) => (wide_any W B p (bl s) h.1 (Nat.le_trans hB h.2.size) hl n u hu).mono (R' := fun e w' => e = .returned (.int .i64 (wsum ((pts (bl s)).take u))) ∧ Sp w w' B p (sfx (bl s))) (fun e w' ⟨he, hd⟩ => ⟨he, h.next hB hd⟩)
  have c105 := fun W (h : Sp w W B p (sfx (bl s))) => (glossaryref02_Wide.calls k3 s n _ W hk3).mono (R' := fun e w' => e = .returned (.int .i64 (wsum ((pts (bl s)).take u))) ∧ Sp w w' B p (sfx (bl s))) (fun e w' ⟨he, hd⟩ => ⟨he, h.next hB hd⟩)
  have hcases : (n < 0 ∧ ((off (sfx (bl s)) u : Int) == (clampA (bl s).length n : Int)) = true) ∨ (0 ≤ n ∧ (s.size : Int) ≤ n ∧ ((off (sfx (bl s)) u : Int) == (clampA (bl s).length n : Int)) = true) ∨ (0 ≤ n ∧ n < (s.size : Int) ∧ ((off (sfx (bl s)) u : Int) == (clampA (bl s).length n : Int)) = ((off (sfx (bl s)) u : Int) == n)) := by
    have hbl := bl_len s
    have hol := off_le (bl s) hu.1
    by_cases h0 : n < 0
    · left
      refine ⟨h0, ?_⟩
      have : u = 0 := by
        rcases hu.2.1 with h | h <;> omega
      rw [this, off_zero]
      have : clampA (bl s).length n = 0 := by unfold clampA; omega
      rw [this]; rfl
    · by_cases h1 : (s.size : Int) ≤ n
      · right; left
        refine ⟨by omega, h1, ?_⟩
        have e1 : clampA (bl s).length n = (bl s).length := by unfold clampA; omega
        have e2 : u = (sfx (bl s)).length := by
          rcases Nat.lt_or_ge u (sfx (bl s)).length with h | h
          · have h2 := hu.2.2 h
            have h3 := off_le (bl s) (i := u + 1) (by omega)
            omega
          · have := hu.1; omega
        rw [e1, e2, off_total]
        simp
      · right; right
        refine ⟨by omega, by omega, ?_⟩
        have e1 : (clampA (bl s).length n : Int) = n := by unfold clampA; omega
        rw [e1]
  clear hk1 hk2 hk3 hk4 hl hsl h hu
  generalize off (sfx (bl s)) (clampN (sfx (bl s)).length n) = z1 at c55 c104
  generalize wsum ((pts (bl s)).take u) = z2 at c62 c105
  generalize (lfold 1 1 ((pts (bl s)).take u)).1 = z3 at c102 c103
  generalize (lfold 1 1 ((pts (bl s)).take u)).2 = z4 at c102 c103
  generalize ((off (sfx (bl s)) u : Int) == (clampA (bl s).length n : Int)) = ok at c64 hcases
  generalize off (sfx (bl s)) u = z5 at c101 hcases
  generalize sfx (bl s) = us at c101 c64 c102 c103 c55 c104 c62 c105 hS
  have r0 : ((u : Int) == (u : Int)) = true := by simp
  rcases hcases with ⟨d1, d2⟩ | ⟨d1, d2, d3⟩ | ⟨d1, d2, d3⟩
  · subst d2
    go_enter Tryd.func65, Tryd.ntmps65
    go_wp2_with (first | (go_at_call 101; refine (c101 _ (by assumption)).mono ?_; rintro e w1 ⟨rfl, hS1⟩) | (go_at_call 64; refine (c64 _ (by assumption)).mono ?_; rintro e w1 ⟨rfl, hS1⟩) | (go_at_call 102; refine (c102 _ (by assumption)).mono ?_; rintro e w1 ⟨rfl, hS1⟩) | (go_at_call 103; refine (c103 _ (by assumption)).mono ?_; rintro e w1 ⟨rfl, hS1⟩) | (go_at_call 55; refine (c55 _ (by assumption)).mono ?_; rintro e w1 ⟨rfl, hS1⟩) | (go_at_call 104; refine (c104 _ (by assumption)).mono ?_; rintro e w1 ⟨rfl, hS1⟩) | (go_at_call 62; refine (c62 _ (by assumption)).mono ?_; rintro e w1 ⟨rfl, hS1⟩) | (go_at_call 105; refine (c105 _ (by assumption)).mono ?_; rintro e w1 ⟨rfl, hS1⟩))
    go_ret
    exact ⟨rfl, by first | exact hS1.2⟩
  · subst d3
    go_enter Tryd.func65, Tryd.ntmps65
    go_wp2_with (first | (go_at_call 101; refine (c101 _ (by assumption)).mono ?_; rintro e w1 ⟨rfl, hS1⟩) | (go_at_call 64; refine (c64 _ (by assumption)).mono ?_; rintro e w1 ⟨rfl, hS1⟩) | (go_at_call 102; refine (c102 _ (by assumption)).mono ?_; rintro e w1 ⟨rfl, hS1⟩) | (go_at_call 103; refine (c103 _ (by assumption)).mono ?_; rintro e w1 ⟨rfl, hS1⟩) | (go_at_call 55; refine (c55 _ (by assumption)).mono ?_; rintro e w1 ⟨rfl, hS1⟩) | (go_at_call 104; refine (c104 _ (by assumption)).mono ?_; rintro e w1 ⟨rfl, hS1⟩) | (go_at_call 62; refine (c62 _ (by assumption)).mono ?_; rintro e w1 ⟨rfl, hS1⟩) | (go_at_call 105; refine (c105 _ (by assumption)).mono ?_; rintro e w1 ⟨rfl, hS1⟩))
    go_ret
    exact ⟨rfl, by first | exact hS1.2⟩
  · by_cases d4 : (z5 : Int) = n
    · subst d4
      have d5 : ok = true := by rw [d3]; simp
      subst d5
      clear d3
      go_enter Tryd.func65, Tryd.ntmps65
      go_wp2_with (first | (go_at_call 101; refine (c101 _ (by assumption)).mono ?_; rintro e w1 ⟨rfl, hS1⟩) | (go_at_call 64; refine (c64 _ (by assumption)).mono ?_; rintro e w1 ⟨rfl, hS1⟩) | (go_at_call 102; refine (c102 _ (by assumption)).mono ?_; rintro e w1 ⟨rfl, hS1⟩) | (go_at_call 103; refine (c103 _ (by assumption)).mono ?_; rintro e w1 ⟨rfl, hS1⟩) | (go_at_call 55; refine (c55 _ (by assumption)).mono ?_; rintro e w1 ⟨rfl, hS1⟩) | (go_at_call 104; refine (c104 _ (by assumption)).mono ?_; rintro e w1 ⟨rfl, hS1⟩) | (go_at_call 62; refine (c62 _ (by assumption)).mono ?_; rintro e w1 ⟨rfl, hS1⟩) | (go_at_call 105; refine (c105 _ (by assumption)).mono ?_; rintro e w1 ⟨rfl, hS1⟩))
      go_ret
      exact ⟨rfl, by first | exact hS1.2⟩
    · have d5 : ((z5 : Int) == n) = false := beq_eq_false_iff_ne.2 d4
      have d6 : ok = false := by rw [d3, d5]
      subst d6
      clear d3
      go_enter Tryd.func65, Tryd.ntmps65
      go_wp2_with (first | (go_at_call 101; refine (c101 _ (by assumption)).mono ?_; rintro e w1 ⟨rfl, hS1⟩) | (go_at_call 64; refine (c64 _ (by assumption)).mono ?_; rintro e w1 ⟨rfl, hS1⟩) | (go_at_call 102; refine (c102 _ (by assumption)).mono ?_; rintro e w1 ⟨rfl, hS1⟩) | (go_at_call 103; refine (c103 _ (by assumption)).mono ?_; rintro e w1 ⟨rfl, hS1⟩) | (go_at_call 55; refine (c55 _ (by assumption)).mono ?_; rintro e w1 ⟨rfl, hS1⟩) | (go_at_call 104; refine (c104 _ (by assumption)).mono ?_; rintro e w1 ⟨rfl, hS1⟩) | (go_at_call 62; refine (c62 _ (by assumption)).mono ?_; rintro e w1 ⟨rfl, hS1⟩) | (go_at_call 105; refine (c105 _ (by assumption)).mono ?_; rintro e w1 ⟨rfl, hS1⟩))
      go_ret
      exact ⟨rfl, by first | exact hS1.2⟩
end Go.Proofs.YtbkimhbpcmbflaaDoor.C
set_option linter.unusedVariables false
set_option linter.unusedSimpArgs false
namespace Go.Proofs.YtbkimhbpcmbflaaDoor.C
open Go Go.RowKit Go.Proofs.YtbkimhbpcmbflaaDoor.M Go.Proofs.YtbkimhbpcmbflaaDoor.E Go.Proofs.YtbkimhbpcmbflaaDoor.PAll Go.Proofs.YtbkimhbpcmbflaaDoorW.PrintWords
def Sp2 (w W : World) (B p q : Nat) (us vs : List (List UInt8)) : Prop := PL W B p us ∧ PL W B q vs ∧ Below w.heap.size w W
theorem Sp2.next {w W w' : World} {B p q : Nat} {us vs : List (List UInt8)} (h : Sp2 w W B p q us vs) (hB : B ≤ w.heap.size) (hb : Below W.heap.size W w') : Sp2 w w' B p q us vs :=
  ⟨h.1.below hb (Nat.le_trans hB h.2.2.size), h.2.1.below hb (Nat.le_trans hB h.2.2.size), h.2.2.trans (hb.mono h.2.2.size)⟩
/-- Measure, as the others read it -/
theorem measure_PL (s : ByteArray) (w : World) (hT : Lib.Utf8Tabs 0 1 w) (hs : s.size ≤ 1048576) :
    Calls Tryd.prog 51 #[.string s] w fun e w' => ∃ p, e = .returned (.pointer (some ⟨p, 0, none⟩)) ∧ PL w' w'.heap.size p (sfx (bl s)) ∧ Below w.heap.size w w' :=
  (measure_any s w hT hs).mono fun e w' ⟨he, hb, v, h1, h2⟩ => ⟨_, he, PL_of h1 h2, hb⟩
theorem of_len (s : ByteArray) (W : World) (hs : s.size ≤ 1048576) : Calls Tryd.prog 24 #[.string s] W fun e w' => ∃ A c, e = .returned (.slice A (sfx (bl s)).length c) ∧ Below W.heap.size W w' := by
  obtain ⟨k, hk⟩ := of_ref s (by omega)
  refine (glossaryref02_Of.calls k s _ W hk).mono fun e w' ⟨v, he, hr, hb⟩ => ?_
  obtain ⟨A, c, rfl⟩ := Kd.R_slice hr
  have : (pts (bl s)).length = (sfx (bl s)).length := by unfold pts; rw [List.length_map]
  rw [this] at he
  exact ⟨A, c, he, hb⟩
set_option maxHeartbeats 2000000 in
set_option maxRecDepth 1000000 in
theorem PointsPlaces_of (w : World) (hT : Lib.Utf8Tabs 0 1 w) (hE : HE w) (s : ByteArray) (hs : s.size ≤ 1048576) (t : ByteArray) (ht : t.size ≤ 1048576) (A : Option Addr) (cap : Nat) (xs : List Int) (hl : xs.length ≤ 9223372036854775806) (hR : Rd w w.heap.size .i64 A xs) :
    Calls Tryd.prog 18 #[.string s, .string t, .slice A xs.length cap] w fun e w' => e = .returned (.bool true) ∧ Below w.heap.size w w' := by
  have hsl := sfx_len (bl s)
  have htl := sfx_len (bl t)
  rw [bl_len] at hsl htl
  have cM1 := measure_PL s w hT hs
  have cM2 := fun W (h : Lib.Utf8Tabs 0 1 W) => measure_PL t W h ht
  obtain ⟨n, hn⟩ : ∃ n, xs.length = n := ⟨_, rfl⟩
  rw [hn]
  have HR := Lib.hid hR
  have Hn := Lib.hid hn
  have hln : n ≤ 9223372036854775806 := by omega
  clear hR hn
  go_enter Tryd.func18, Tryd.ntmps18
  go_wp2_with fail
  refine cM1.mono ?_
  rintro e w1 ⟨p, rfl, hp1, hb1⟩
  have hT1 := tabs_below hT hb1 (Nat.le_refl _)
  go_wp2_with fail
  refine (cM2 _ hT1).mono ?_
  rintro e w2 ⟨q, rfl, hq2, hb2⟩
  have hb12 := hb1.trans (hb2.mono hb1.size)
  have hp2 := (hp1.below hb2 (Nat.le_refl _)).more hb2.size
  have hS : Sp2 w2 w2 w2.heap.size p q (sfx (bl s)) (sfx (bl t)) := ⟨hp2, hq2, Below.refl _ _⟩
  have cUp := fun W (h : Sp2 w2 W w2.heap.size p q (sfx (bl s)) (sfx (bl t))) => (units_any W w2.heap.size p (sfx (bl s)) h.1 (by omega)).mono (R' := fun e w' => e = .returned (.int .i64 ((sfx (bl s)).length : Nat)) ∧ Sp2 w2 w' w2.heap.size p q (sfx (bl s)) (sfx (bl t))) (fun e w' ⟨he, hd⟩ => ⟨he, hd ▸ h⟩)
  have cUq := fun W (h : Sp2 w2 W w2.heap.size p q (sfx (bl s)) (sfx (bl t))) => (units_any W w2.heap.size q (sfx (bl t)) h.2.1 (by omega)).mono (R' := fun e w' => e = .returned (.int .i64 ((sfx (bl t)).length : Nat)) ∧ Sp2 w2 w' w2.heap.size p q (sfx (bl s)) (sfx (bl t))) (fun e w' ⟨he, hd⟩ => ⟨he, hd ▸ h⟩)
  have cOs := fun W (h : Sp2 w2 W w2.heap.size p q (sfx (bl s)) (sfx (bl t))) => (of_len s W hs).mono (R' := fun e w' => ∃ A c, e = .returned (.slice A (sfx (bl s)).length c) ∧ Sp2 w2 w' w2.heap.size p q (sfx (bl s)) (sfx (bl t))) (fun e w' ⟨A, c, he, hd⟩ => ⟨A, c, he, h.next (Nat.le_refl _) hd⟩)
  have cOt := fun W (h : Sp2 w2 W w2.heap.size p q (sfx (bl s)) (sfx (bl t))) => (of_len t W ht).mono (R' := fun e w' => ∃ A c, e = .returned (.slice A (sfx (bl t)).length c) ∧ Sp2 w2 w' w2.heap.size p q (sfx (bl s)) (sfx (bl t))) (fun e w' ⟨A, c, he, hd⟩ => ⟨A, c, he, h.next (Nat.le_refl _) hd⟩)
  have cPp := fun W x (h : Sp2 w2 W w2.heap.size p q (sfx (bl s)) (sfx (bl t))) => (placed_any W w2.heap.size p s h.1 h.2.2.size hs x).mono (R' := fun e w' => e = .returned (.bool true) ∧ Sp2 w2 w' w2.heap.size p q (sfx (bl s)) (sfx (bl t))) (fun e w' ⟨he, hd⟩ => ⟨he, h.next (Nat.le_refl _) hd⟩)
  have cPq := fun W x (h : Sp2 w2 W w2.heap.size p q (sfx (bl s)) (sfx (bl t))) => (placed_any W w2.heap.size q t h.2.1 h.2.2.size ht x).mono (R' := fun e w' => e = .returned (.bool true) ∧ Sp2 w2 w' w2.heap.size p q (sfx (bl s)) (sfx (bl t))) (fun e w' ⟨he, hd⟩ => ⟨he, h.next (Nat.le_refl _) hd⟩)
  obtain ⟨a, ha⟩ : ∃ a, (sfx (bl s)).length = a := ⟨_, rfl⟩
  obtain ⟨b, hb⟩ : ∃ b, (sfx (bl t)).length = b := ⟨_, rfl⟩
  rw [ha] at cUp cOs
  rw [hb] at cUq cOt
  generalize sfx (bl s) = us at cUp cUq cOs cOt cPp cPq hS
  generalize sfx (bl t) = vs at cUp cUq cOs cOt cPp cPq hS
  clear cM1 cM2 hp1 hq2 hp2 ha hb hsl htl hT1
  go_wp2_with fail
  refine (cUp _ hS).mono ?_
  rintro e w3 ⟨rfl, hS3⟩
  go_wp2_with fail
  refine (cOs _ hS3).mono ?_
  rintro e w4 ⟨A4, c4, rfl, hS4⟩
  go_wp2_with fail
  refine (cUq _ hS4).mono ?_
  rintro e w5 ⟨rfl, hS5⟩
  go_wp2_with fail
  refine (cOt _ hS5).mono ?_
  rintro e w6 ⟨A6, c6, rfl, hS6⟩
  clear hS hS3 hS4 hS5
  go_wp2_with fail
  go_loopw [9] (fun kv wr => ∃ k : Nat, kv = .int .i64 k ∧ k ≤ n ∧ Sp2 w2 wr w2.heap.size p q us vs) (fun kv _ => n - (intOf kv).toNat)
  case atStart => exact ⟨0, rfl, Nat.zero_le _, hS6⟩
  case round =>
    obtain ⟨k, rfl, hk, hSr⟩ := hrel
    have hbr := hb12.trans (hSr.2.2.mono hb12.size)
    have hEr : HE wr := hE.below hbr (Nat.le_refl _)
    by_cases hlt : k < n
    · by_cases h60 : k < 60
      · rcases HR.out with h0 | ⟨ad, rfl, hbl, hc⟩
        · have := Hn.out; rw [h0] at this; simp at this; omega
        · obtain ⟨x, hxk⟩ : ∃ x, xs[k]? = some x := ⟨_, List.getElem?_eq_getElem (show k < xs.length by have := Hn.out; omega)⟩
          have hcell : ∀ W, Sp2 w2 W w2.heap.size p q us vs → W.cell? (ad.add k) = some (.int .i64 x) := fun W h => ((hb12.trans (h.2.2.mono hb12.size)).cell (p := ad.add k) (by rw [add_block]; exact hbl)).trans (hc k x hxk)
          have hltI : (k : Int) < n := by omega
          have k1 := hcell _ hSr
          have HC := Lib.hid hcell
          clear hcell hc hxk HR
          go_wp2_with fail
          refine (cPp _ _ hSr).mono ?_
          rintro e w7 ⟨rfl, hS7⟩
          have k2 := HC.out _ hS7
          go_wp2_with fail
          refine (cPq _ _ hS7).mono ?_
          rintro e w8 ⟨rfl, hS8⟩
          have k3 := HC.out _ hS8
          go_wp2_with fail
          refine (cPp _ _ hS8).mono ?_
          rintro e w9 ⟨rfl, hS9⟩
          go_wp2
          go_roundw
          case rel => exact ⟨k + 1, by go_num, by omega, hS9⟩
          case measure => simp [intOf]; omega
      · go_wp2_with fail
        refine (works_any _ hEr).mono ?_
        rintro e w7 ⟨rfl, hb7⟩
        go_wp2
        go_ret
        exact ⟨rfl, hbr.trans (hb7.mono hbr.size)⟩
    · go_wp2_with fail
      refine (works_any _ hEr).mono ?_
      rintro e w7 ⟨rfl, hb7⟩
      go_wp2
      go_ret
      exact ⟨rfl, hbr.trans (hb7.mono hbr.size)⟩
theorem law_PointsPlaces (w : World) (hT : Lib.Utf8Tabs 0 1 w) (hE : HE w) (s : ByteArray) (hs : s.size ≤ 140737488351232) (hsb : s.size ≤ 1048576) (t : ByteArray) (ht : t.size ≤ 140737488351232) (htb : t.size ≤ 1048576)
    (a : Option Addr) (len cap : Nat) (zs : List Int) (h : IsRow .i64 w a len cap zs) (hy : len * 8 ≤ 140737488351232) :
    Calls Tryd.prog 18 #[.string s, .string t, .slice a len cap] w fun e w' => e = .returned (.bool true) ∧ Below w.heap.size w w' := by
  obtain ⟨hl, hR, hc, hw⟩ := h.rd
  have := PointsPlaces_of w hT hE s hsb t htb a cap (zs.take len) (by omega) hR
  rw [hl] at this
  exact this
end Go.Proofs.YtbkimhbpcmbflaaDoor.C
set_option linter.unusedVariables false
set_option linter.unusedSimpArgs false
namespace Go.Proofs.YtbkimhbpcmbflaaDoor.C
open Go Go.RowKit Go.Proofs.YtbkimhbpcmbflaaDoor.M Go.Proofs.YtbkimhbpcmbflaaDoor.E Go.Proofs.YtbkimhbpcmbflaaDoor.PAll Go.Proofs.YtbkimhbpcmbflaaDoorW.PrintWords
end Go.Proofs.YtbkimhbpcmbflaaDoor.C
set_option linter.unusedVariables false
set_option linter.unusedSimpArgs false
namespace Go.Proofs.YtbkimhbpcmbflaaDoor.C
open Go Go.RowKit Go.Proofs.YtbkimhbpcmbflaaDoor.M Go.Proofs.YtbkimhbpcmbflaaDoor.E Go.Proofs.YtbkimhbpcmbflaaDoor.PAll Go.Proofs.YtbkimhbpcmbflaaDoorW.PrintWords
end Go.Proofs.YtbkimhbpcmbflaaDoor.C
set_option linter.unusedVariables false
namespace Go.Proofs.YtbkimhbpcmbflaaDoor.Ap
open Go
section
variable {P : Program} (w : World)
theorem run_append_keeps (t ty : TypeId) (base : Nat) (e : TypeId) (i : TypeInfo) (z : Value) (size bytes : Nat) (ht : P.underlying t = some (.slice e)) (hi : P.info? e = some i) (hz : i.zero = some z)
    (hsize : i.size = size) (hby : i.bytes = bytes) (hzs : z.cells.size = size) (hsz : 0 < size)
    (v : Value) (n : Nat) (xs : List Value) (hown : w.ownsRow base e size v n xs)
    (ad : Addr) (m c : Nat) (news : List Value) (hl : news.length = m * size) (hnews : ∀ j u, news[j]? = some u → w.cell? (ad.add j) = some u) (h1 : ∀ u ∈ news, u.oneCell' = true)
    (hm : 0 < m) (h63 : n + m ≤ maxLen) (hbytes : (n + m) * bytes ≤ 140737488355328) (hbase : base ≤ w.heap.size) (H : Nat) (hH : w.heap.size = H) :
    ∃ g cap w', (Builtin.append_ #[t, t] ty #[v, .slice (some ad) m c]).run P w = .ok (.slice (some ⟨g, 0, none⟩) (n + m) cap) w' ∧
      w'.ownsRow base e size (.slice (some ⟨g, 0, none⟩) (n + m) cap) (n + m) (xs ++ news) ∧ w.grownBy w' v.ownBlock ∧ (v.ownBlock = some g ∨ g = H) ∧ g < w'.heap.size ∧
      ∀ b0 v0 n0 xs0, w.ownsRow b0 e size v0 n0 xs0 → n0 ≤ n → w'.ownsRow b0 e size v0 n0 xs0 := by
  obtain ⟨g, cap, w', hr, h2, h3, h4, h5⟩ := run_append_lies (P := P) w t ty base e i z size bytes ht hi hz hsize hby hzs hsz v n xs hown ad m c news hl hnews h1 hm h63 hbytes hbase H hH
  refine ⟨g, cap, w', hr, h2, h3, h4, h5, fun b0 v0 n0 xs0 h0 hn0 => ?_⟩
  subst hsize
  rcases hown.2 with ⟨rfl, rfl⟩ | ⟨b, cp, cur, rfl, hbg, hg, hnc, hcm, hcs, htake⟩
  · exact h0.kept h3 (by cases hv : v0.ownBlock <;> simp [Value.ownBlock])
  · by_cases hroom : n + m ≤ cp
    · have hfit : n * i.size + news.length ≤ cur.size := by rw [hl, hcs, ← Nat.add_mul]; exact Nat.mul_le_mul_right _ hroom
      have hr' := run_append_room (P := P) w t ty e i ht hi b n cp cur hg ad m c news hl hnews h1 hroom hfit
      rw [hr'] at hr
      injection hr with _ hw
      subst hw
      rcases h0.2 with ⟨rfl, rfl⟩ | ⟨b', cp', cur', rfl, hb', hg', hnc', hcm', hcs', htake'⟩
      · exact ⟨h0.1, .inl ⟨rfl, rfl⟩⟩
      · by_cases hbb : b' = b
        · subst hbb
          rw [hg] at hg'
          injection hg' with hcc
          injection hcc with hcc _ _
          subst hcc
          have hle : n0 * i.size ≤ n * i.size := Nat.mul_le_mul_right _ hn0
          have hcl : n * i.size ≤ cur.toList.length := by rw [Array.length_toList, hcs]; exact Nat.mul_le_mul_right _ hnc
          refine ⟨h0.1, .inr ⟨b', cp', _, rfl, hb', setRow_heap w b' cur _ e _ hg, hnc', hcm', ?_, ?_⟩⟩
          · simp only [List.size_toArray, List.length_append, List.length_take, List.length_drop, Array.length_toList]
            omega
          · rw [List.append_assoc, List.take_append_of_le_length (by rw [List.length_take]; omega), List.take_take, Nat.min_eq_left hle, htake']
        · exact h0.kept h3 (.inr (by simpa [Value.ownBlock] using hbb))
    · have holds : ∀ j u, xs[j]? = some u → w.cell? ((⟨b, 0, none⟩ : Addr).add j) = some u := hown.cells (g := b) rfl
      subst hby
      have hsmall : n + m ≤ 9223372036854775807 := by simp only [maxLen] at h63; omega
      have hr' := run_append_grow (P := P) w t ty e i z ht hi hz ⟨b, 0, none⟩ n cp xs hown.1 holds ad m c news hl hnews (by omega) (by omega) (growslice_fits (by omega) hbytes)
      rw [hr'] at hr
      injection hr with _ hw
      subst hw
      exact h0.drew.alloc _
theorem wp_append_keeps {o : Oper} {a : Act} {K : Act → World → Prop} {Q : Exit → Act → World → Prop} (s x : Operand) (t : TypeId)
    (ho : o.op = .call { callee := .builtin .append, args := #[s, x], argTypes := #[t, t] })
    (base : Nat) (e : TypeId) (i : TypeInfo) (z : Value) (size bytes : Nat) (ht : P.underlying t = some (.slice e)) (hi : P.info? e = some i) (hz : i.zero = some z)
    (hsize : i.size = size) (hby : i.bytes = bytes) (hzs : z.cells.size = size) (hsz : 0 < size)
    (v : Value) (n : Nat) (xs : List Value) (hs : a.eval s = v) (hown : w.ownsRow base e size v n xs)
    (ad : Addr) (m c : Nat) (news : List Value) (hx : a.eval x = .slice (some ad) m c) (hl : news.length = m * size) (hnews : ∀ j u, news[j]? = some u → w.cell? (ad.add j) = some u) (h1 : ∀ u ∈ news, u.oneCell' = true)
    (hm : 0 < m) (h63 : n + m ≤ maxLen) (hbytes : (n + m) * bytes ≤ 140737488355328) (hbase : base ≤ w.heap.size) (H : Nat) (hH : w.heap.size = H)
    (h : ∀ g cap w', w'.ownsRow base e size (.slice (some ⟨g, 0, none⟩) (n + m) cap) (n + m) (xs ++ news) → w.grownBy w' v.ownBlock → (v.ownBlock = some g ∨ g = H) → g < w'.heap.size →
      (∀ b0 v0 n0 xs0, w.ownsRow b0 e size v0 n0 xs0 → n0 ≤ n → w'.ownsRow b0 e size v0 n0 xs0) → K (a.put o.dst (.slice (some ⟨g, 0, none⟩) (n + m) cap)) w') : o.wp P a w K Q := by
  obtain ⟨g, cap, w', hr, h2, h3, h4, h5, h6⟩ := run_append_keeps (P := P) w t o.type base e i z size bytes ht hi hz hsize hby hzs hsz v n xs hown ad m c news hl hnews h1 hm h63 hbytes hbase H hH
  unfold Oper.wp execOp
  simp only [ho, resolve, invoke, builtin, Sem.run_bind, Sem.run_pure, Result.andThen_ok, List.map_toArray, List.map_cons, List.map_nil, hs, hx, hr]
  exact h g cap w' h2 h3 h4 h5 h6
theorem wpList_append_keeps {ops : Array Oper} {rest : List Oper} {o : Oper} {a : Act} {Q : Exit → Act → World → Prop} (hgd : o.guard = none) (s x : Operand) (t : TypeId)
    (ho : o.op = .call { callee := .builtin .append, args := #[s, x], argTypes := #[t, t] })
    (base : Nat) (e : TypeId) (i : TypeInfo) (z : Value) (size bytes : Nat) (ht : P.underlying t = some (.slice e)) (hi : P.info? e = some i) (hz : i.zero = some z)
    (hsize : i.size = size) (hby : i.bytes = bytes) (hzs : z.cells.size = size) (hsz : 0 < size)
    (v : Value) (n : Nat) (xs : List Value) (hs : a.eval s = v) (hown : w.ownsRow base e size v n xs)
    (ad : Addr) (m c : Nat) (news : List Value) (hx : a.eval x = .slice (some ad) m c) (hl : news.length = m * size) (hnews : ∀ j u, news[j]? = some u → w.cell? (ad.add j) = some u) (h1 : ∀ u ∈ news, u.oneCell' = true)
    (hm : 0 < m) (h63 : n + m ≤ maxLen) (hbytes : (n + m) * bytes ≤ 140737488355328) (hbase : base ≤ w.heap.size) (H : Nat) (hH : w.heap.size = H)
    (h : ∀ g cap w', w'.ownsRow base e size (.slice (some ⟨g, 0, none⟩) (n + m) cap) (n + m) (xs ++ news) → w.grownBy w' v.ownBlock → (v.ownBlock = some g ∨ g = H) → g < w'.heap.size →
      (∀ b0 v0 n0 xs0, w.ownsRow b0 e size v0 n0 xs0 → n0 ≤ n → w'.ownsRow b0 e size v0 n0 xs0) → wpList P ops Q rest (a.put o.dst (.slice (some ⟨g, 0, none⟩) (n + m) cap)) w') : wpList P ops Q (o :: rest) a w :=
  wpList_plain hgd fun _ hK => wp_append_keeps w s x t ho base e i z size bytes ht hi hz hsize hby hzs hsz v n xs hs hown ad m c news hx hl hnews h1 hm h63 hbytes hbase H hH fun g cap w' h2 h3 h4 h5 h6 => hK _ _ (h g cap w' h2 h3 h4 h5 h6)
end
end Go.Proofs.YtbkimhbpcmbflaaDoor.Ap
set_option linter.unusedVariables false
set_option linter.unusedSimpArgs false
namespace Go.Proofs.YtbkimhbpcmbflaaDoor.C
open Go Go.RowKit Go.Proofs.YtbkimhbpcmbflaaDoor.M Go.Proofs.YtbkimhbpcmbflaaDoor.E
/-- a mark -/
def mkI (k i : Int) : Int := -1000 * (k + 1) - i
set_option maxHeartbeats 1000000 in
theorem mark_any (k i : Int) (hk0 : 0 ≤ k) (hk : k ≤ 1000) (hi0 : 0 ≤ i) (hi : i ≤ 4000000) (w : World) :
    Calls Tryd.prog 77 #[.int .i64 k, .int .i64 i] w fun e w' => e = .returned (.int .i32 (mkI k i)) ∧ w = w' := by
  have h1 : wrap32 (k + 1) = k + 1 := w32 (by omega) (by omega)
  have h2 : wrap32 i = i := w32 (by omega) (by omega)
  have h3 : wrap32 (-1000 * (k + 1)) = -1000 * (k + 1) := w32 (by omega) (by omega)
  have h4 : wrap32 (-1000 * (k + 1) - i) = -1000 * (k + 1) - i := w32 (by omega) (by omega)
  go_enter Tryd.func77, Tryd.ntmps77
  go_wp2
  go_ret
  exact ⟨rfl, rfl⟩
def mkL (k n : Nat) : List Int := (List.range n).map fun i => mkI k (i : Nat)
theorem mkL_len (k n : Nat) : (mkL k n).length = n := by simp [mkL]
theorem mkL_succ (k n : Nat) : mkL k (n + 1) = mkL k n ++ [mkI k (n : Nat)] := by simp [mkL, List.range_succ]
theorem mkL_get {k n i : Nat} (h : i < n) : (mkL k n)[i]? = some (mkI k (i : Nat)) := by simp [mkL, h]
abbrev cI (xs : List Int) : List Value := xs.map (Value.int .i32)
section
variable (W0 : World) (base lb m : Nat) (ax : Nat → Option Addr) (ns cs : Nat → Nat)
abbrev vAt (ax : Nat → Option Addr) (ns cs : Nat → Nat) (j : Nat) : Value := .slice (ax j) (ns j) (cs j)
/-- where the first part of the marking has come to: of list j the first 'd j' are marked -/
structure Ph (cls : Nat → Nat) (d : Nat → Nat) (wr : World) : Prop where
  below : Below base W0 wr
  size : base ≤ W0.heap.size
  lbl : lb < W0.heap.size
  lst : ∀ j, j < m → wr.cell? ⟨lb, j, none⟩ = some (vAt ax ns cs j)
  lbc : cls lb = 100
  row : ∀ j, j < m → ∃ xs : List Int, wr.ownsRow base 21 1 (vAt ax ns cs j) (ns j) (cI xs) ∧ ∀ t, t < d j → xs[t]? = some (mkI j (t : Nat))
  cl : ∀ j, j < m → ∀ b, (vAt ax ns cs j).ownBlock = some b → cls b = j
end
section
variable {W0 : World} {base lb m : Nat} {ax : Nat → Option Addr} {ns cs : Nat → Nat} {cls d : Nat → Nat} {wr : World}
theorem Ph.congr (h : Ph W0 base lb m ax ns cs cls d wr) {d' : Nat → Nat} (hd : ∀ j, j < m → d' j ≤ d j) : Ph W0 base lb m ax ns cs cls d' wr :=
  ⟨h.below, h.size, h.lbl, h.lst, h.lbc, fun j hj => by obtain ⟨xs, h1, h2⟩ := h.row j hj; exact ⟨xs, h1, fun t ht => h2 t (Nat.lt_of_lt_of_le ht (hd j hj))⟩, h.cl⟩
theorem Ph.drew (h : Ph W0 base lb m ax ns cs cls d wr) : Ph W0 base lb m ax ns cs cls d wr.drew :=
  ⟨h.below.drew, h.size, h.lbl, h.lst, h.lbc, fun j hj => by obtain ⟨xs, h1, h2⟩ := h.row j hj; exact ⟨xs, h1.drew, h2⟩, h.cl⟩
theorem Ph.form (h : Ph W0 base lb m ax ns cs cls d wr) {j : Nat} (hj : j < m) (h0 : 0 < ns j) : ∃ g, ax j = some ⟨g, 0, none⟩ ∧ base ≤ g ∧ g < wr.heap.size ∧ cls g = j := by
  obtain ⟨xs, h1, _⟩ := h.row j hj
  obtain ⟨g, cap, e, hb, hlt⟩ := h1.form h0
  have e' : ax j = some ⟨g, 0, none⟩ := by injection e
  exact ⟨g, e', hb, hlt, h.cl j hj g (by simp [vAt, Value.ownBlock, e'])⟩
theorem Ph.cellAt (h : Ph W0 base lb m ax ns cs cls d wr) {j g i : Nat} (hj : j < m) (hg : ax j = some ⟨g, 0, none⟩) (hi : i < ns j) :
    (∃ old, wr.cell? ⟨g, i, none⟩ = some old) ∧ wr.frozen? ⟨g, i, none⟩ = false := by
  obtain ⟨xs, h1, _⟩ := h.row j hj
  have e : vAt ax ns cs j = .slice (some ⟨g, 0, none⟩) (ns j) (cs j) := by simp [vAt, hg]
  rw [e] at h1
  refine ⟨?_, h1.frozenAt i⟩
  have hl := h1.1
  rw [h1.cellAt i (by omega)]
  exact ⟨_, List.getElem?_eq_getElem (by omega)⟩
theorem Ph.lt (h : Ph W0 base lb m ax ns cs cls d wr) {j : Nat} (hj : j < m) : lb < wr.heap.size := cell_blk (h.lst j hj)
theorem Ph.store (h : Ph W0 base lb m ax ns cs cls d wr) (hm : m ≤ 16) {k i g : Nat} (hk : k < m) (hi : i < ns k) (hd : i ≤ d k) (hg : ax k = some ⟨g, 0, none⟩) {d' : Nat → Nat} (hd' : ∀ j, j < m → d' j ≤ if j = k then i + 1 else d j) :
    Ph W0 base lb m ax ns cs cls d' (wr.setCell ⟨g, i, none⟩ (.int .i32 (mkI k (i : Nat)))) := by
  have hck : cls g = k := h.cl k hk g (by simp [vAt, Value.ownBlock, hg])
  obtain ⟨xk, hk1, hk2⟩ := h.row k hk
  have hgb : base ≤ g := by
    have := hk1.lt g (by simp [vAt, Value.ownBlock, hg])
    omega
  have hkr : wr.ownsRow base 21 1 (.slice (some ⟨g, 0, none⟩) (ns k) (cs k)) (ns k) (cI xk) := by
    have : vAt ax ns cs k = .slice (some ⟨g, 0, none⟩) (ns k) (cs k) := by simp [vAt, hg]
    rw [this] at hk1; exact hk1
  obtain ⟨hs1, hs2⟩ := hkr.stored i (.int .i32 (mkI k (i : Nat)))
  refine ⟨h.below.setCell (p := ⟨g, i, none⟩) hgb _, h.size, h.lbl, fun j hj => ?_, h.lbc, fun j hj => ?_, h.cl⟩
  · have hne : lb ≠ g := by intro e; have := h.lbc; rw [e, hck] at this; omega
    exact (World.cell?_of_block (Below.heap_setCell wr ⟨g, i, none⟩ _ lb hne)).trans (h.lst j hj)
  · by_cases hjk : j = k
    · subst hjk
      refine ⟨xk.set i (mkI j (i : Nat)), ?_, fun t ht => ?_⟩
      · have e : vAt ax ns cs j = .slice (some ⟨g, 0, none⟩) (ns j) (cs j) := by simp [vAt, hg]
        rw [e, cI, List.map_set]
        exact hs1
      · have hx := hd' j hj
        rw [if_pos rfl] at hx
        have hlen : xk.length = ns j := by have := hkr.1; simpa using this
        by_cases hti : t = i
        · subst hti
          rw [List.getElem?_set_self (by omega)]
        · rw [List.getElem?_set_ne (by omega)]
          exact hk2 t (by omega)
    · obtain ⟨xs, h1, h2⟩ := h.row j hj
      refine ⟨xs, h1.kept hs2 ?_, fun t ht => h2 t ?_⟩
      · right
        intro e
        have := h.cl j hj g e
        omega
      · have hx := hd' j hj
        rw [if_neg hjk] at hx
        omega
end
abbrev uAt (ub uc ns : Nat → Nat) (j : Nat) : Value := .slice (some ⟨ub j, 0, none⟩) (ns j + 64) (uc j)
/-- the second part: k lists have grown; they lie in gsv -/
structure Pg (W0 : World) (base lb m : Nat) (ax : Nat → Option Addr) (ns cs : Nat → Nat) (cls : Nat → Nat) (ub uc : Nat → Nat) (k : Nat) (gsv : Value) (wr : World) : Prop where
  ph : Ph W0 base lb m ax ns cs cls ns wr
  big : ∀ j, j < k → wr.ownsRow base 21 1 (uAt ub uc ns j) (ns j + 64) (cI (mkL j (ns j + 64))) ∧ cls (ub j) = j
  gs : wr.ownsRow base 22 1 gsv k ((List.range k).map (uAt ub uc ns))
  gc : ∀ b, gsv.ownBlock = some b → cls b = 101
/-- the k-th is growing -/
structure Gk (base : Nat) (ns : Nat → Nat) (cls : Nat → Nat) (k : Nat) (gv : Value) (i : Nat) (wr : World) : Prop where
  row : wr.ownsRow base 21 1 gv (ns k + i) (cI (mkL k (ns k + i)))
  cl : ∀ b, gv.ownBlock = some b → cls b = k
section
variable {W0 : World} {base lb m : Nat} {ax : Nat → Option Addr} {ns cs : Nat → Nat} {cls d ub uc : Nat → Nat} {k : Nat} {gsv gv : Value} {wr : World}
theorem Ph.alloc (h : Ph W0 base lb m ax ns cs cls d wr) (o : Obj) : Ph W0 base lb m ax ns cs cls d (wr.alloc o) :=
  ⟨h.below.alloc (Nat.le_trans h.size h.below.size) o, h.size, h.lbl, fun j hj => by rw [World.cell?_alloc_lt _ _ _ (cell_blk (h.lst j hj))]; exact h.lst j hj, h.lbc,
    fun j hj => by obtain ⟨xs, h1, h2⟩ := h.row j hj; exact ⟨xs, h1.alloc o, h2⟩, h.cl⟩
theorem Pg.alloc (h : Pg W0 base lb m ax ns cs cls ub uc k gsv wr) (o : Obj) : Pg W0 base lb m ax ns cs cls ub uc k gsv (wr.alloc o) :=
  ⟨h.ph.alloc o, fun j hj => ⟨(h.big j hj).1.alloc o, (h.big j hj).2⟩, h.gs.alloc o, h.gc⟩
theorem Gk.alloc {i : Nat} (h : Gk base ns cls k gv i wr) (o : Obj) : Gk base ns cls k gv i (wr.alloc o) := ⟨h.row.alloc o, h.cl⟩
theorem Pg.start (h : Ph W0 base lb m ax ns cs cls ns wr) : Pg W0 base lb m ax ns cs cls ub uc 0 (.slice none 0 0) wr :=
  ⟨h, fun j hj => by omega, World.ownsRow_nil _ _ _ _, fun b hb => by simp [Value.ownBlock] at hb⟩
theorem Gk.start (h : Ph W0 base lb m ax ns cs cls ns wr) (hk : k < m) : Gk base ns cls k (vAt ax ns cs k) 0 wr := by
  obtain ⟨xs, h1, h2⟩ := h.row k hk
  refine ⟨?_, h.cl k hk⟩
  have hl : xs.length = ns k := by have := h1.1; simpa using this
  have e : xs = mkL k (ns k) := by
    apply List.ext_getElem?
    intro t
    rcases Nat.lt_or_ge t (ns k) with ht | ht
    · rw [h2 t ht, mkL_get ht]
    · rw [List.getElem?_eq_none (by omega), List.getElem?_eq_none (by rw [mkL_len]; exact ht)]
  rw [Nat.add_zero, ← e]; exact h1
/-- the lists that are not of the class that is turned stay -/
theorem Ph.kept {w' : World} {row : Option Nat} {cls' : Nat → Nat} (h : Ph W0 base lb m ax ns cs cls ns wr) (hg : wr.grownBy w' row) (hrb : ∀ b, row = some b → base ≤ b) (hlb : row ≠ some lb)
    (hc : ∀ b, b < wr.heap.size → cls' b = cls b)
    (hrow : ∀ j, j < m → ∀ xs, wr.ownsRow base 21 1 (vAt ax ns cs j) (ns j) xs → w'.ownsRow base 21 1 (vAt ax ns cs j) (ns j) xs) : Ph W0 base lb m ax ns cs cls' ns w' :=
  ⟨h.below.grown hg (Nat.le_trans h.size h.below.size) (fun k e => hrb k e), h.size, h.lbl, fun j hj => hg.cell (h.lst j hj) (fun e => hlb e.symm),
    by rw [hc _ (Nat.lt_of_lt_of_le h.lbl h.below.size)]; exact h.lbc,
    fun j hj => by obtain ⟨xs, h1, h2⟩ := h.row j hj; exact ⟨xs, hrow j hj _ h1, h2⟩,
    fun j hj b hb => by obtain ⟨xs, h1, _⟩ := h.row j hj; rw [hc b (h1.lt b hb).2]; exact h.cl j hj b hb⟩
theorem Pg.grow {w' : World} {g cap i : Nat} (hp : Pg W0 base lb m ax ns cs cls ub uc k gsv wr) (hq : Gk base ns cls k gv i wr) (hk : k < m) (hm : m ≤ 16)
    (hown : w'.ownsRow base 21 1 (.slice (some ⟨g, 0, none⟩) (ns k + i + 1) cap) (ns k + i + 1) (cI (mkL k (ns k + i)) ++ [.int .i32 (mkI k ((ns k + i : Nat) : Int))]))
    (hg : wr.grownBy w' gv.ownBlock) (hl : gv.ownBlock = some g ∨ g = wr.heap.size)
    (hkeep : ∀ b0 v0 n0 xs0, wr.ownsRow b0 21 1 v0 n0 xs0 → n0 ≤ ns k + i → w'.ownsRow b0 21 1 v0 n0 xs0) :
    ∃ cls', Pg W0 base lb m ax ns cs cls' ub uc k gsv w' ∧ Gk base ns cls' k (.slice (some ⟨g, 0, none⟩) (ns k + i + 1) cap) (i + 1) w' := by
  obtain ⟨c', hc, hcg⟩ : ∃ c' : Nat → Nat, (∀ b, b < wr.heap.size → c' b = cls b) ∧ c' g = k := by
    refine ⟨fun b => if b = g then k else cls b, fun b hb => ?_, by simp⟩
    by_cases e : b = g
    · subst e
      rcases hl with h | h
      · simp only [if_pos]
        exact (hq.cl b h).symm
      · omega
    · simp only [if_neg e]
  have hne : ∀ (v : Value) (c : Nat), c ≠ k → (∀ b, v.ownBlock = some b → cls b = c) → v.ownBlock = none ∨ v.ownBlock ≠ gv.ownBlock := fun v c hck hv => by
    cases h : v.ownBlock with
    | none => exact .inl rfl
    | some b =>
      right
      intro e
      have := hv b h
      have := hq.cl b e.symm
      omega
  refine ⟨c', ⟨?_, fun j hj => ?_, hp.gs.kept hg (hne _ 101 (by omega) hp.gc), fun b hb => ?_⟩, ⟨?_, fun b hb => ?_⟩⟩
  · refine hp.ph.kept hg (fun b hb => (hq.row.lt b hb).1) (fun e => ?_) hc (fun j hj xs h1 => ?_)
    · have := hq.cl lb e; have := hp.ph.lbc; omega
    · by_cases hjk : j = k
      · subst hjk; exact hkeep _ _ _ _ h1 (by omega)
      · exact h1.kept hg (hne _ j hjk (hp.ph.cl j hj))
  · obtain ⟨h1, h2⟩ := hp.big j hj
    refine ⟨h1.kept hg (hne _ j (by omega) (fun b hb => ?_)), ?_⟩
    · have : ub j = b := by simpa [uAt, Value.ownBlock] using hb
      rw [← this]; exact h2
    · rw [hc _ (h1.lt (ub j) (by simp [uAt, Value.ownBlock])).2]; exact h2
  · rw [hc _ (hp.gs.lt b hb).2]; exact hp.gc b hb
  · rw [← Nat.add_assoc, mkL_succ, cI, List.map_append]; exact hown
  · have : g = b := by simpa [Value.ownBlock] using hb
    subst this
    exact hcg
theorem Pg.push {w' : World} {g cap gb gcap : Nat} (hp : Pg W0 base lb m ax ns cs cls ub uc k gsv wr) (hq : Gk base ns cls k (.slice (some ⟨g, 0, none⟩) (ns k + 64) cap) 64 wr) (hk : k < m) (hm : m ≤ 16)
    (hown : w'.ownsRow base 22 1 (.slice (some ⟨gb, 0, none⟩) (k + 1) gcap) (k + 1) ((List.range k).map (uAt ub uc ns) ++ [.slice (some ⟨g, 0, none⟩) (ns k + 64) cap]))
    (hg : wr.grownBy w' gsv.ownBlock) (hl : gsv.ownBlock = some gb ∨ gb = wr.heap.size) :
    ∃ cls' ub' uc', Pg W0 base lb m ax ns cs cls' ub' uc' (k + 1) (.slice (some ⟨gb, 0, none⟩) (k + 1) gcap) w' := by
  obtain ⟨c', hc, hcg⟩ : ∃ c' : Nat → Nat, (∀ b, b < wr.heap.size → c' b = cls b) ∧ c' gb = 101 := by
    refine ⟨fun b => if b = gb then 101 else cls b, fun b hb => ?_, by simp⟩
    by_cases e : b = gb
    · subst e
      rcases hl with h | h
      · simp only [if_pos]
        exact (hp.gc b h).symm
      · omega
    · simp only [if_neg e]
  have hne : ∀ (v : Value) (c : Nat), c ≠ 101 → (∀ b, v.ownBlock = some b → cls b = c) → v.ownBlock = none ∨ v.ownBlock ≠ gsv.ownBlock := fun v c hck hv => by
    cases h : v.ownBlock with
    | none => exact .inl rfl
    | some b =>
      right
      intro e
      have := hv b h
      have := hp.gc b e.symm
      omega
  refine ⟨c', fun j => if j = k then g else ub j, fun j => if j = k then cap else uc j, ⟨?_, fun j hj => ?_, ?_, fun b hb => ?_⟩⟩
  · refine hp.ph.kept hg (fun b hb => (hp.gs.lt b hb).1) (fun e => ?_) hc (fun j hj xs h1 => h1.kept hg (hne _ j (by omega) (hp.ph.cl j hj)))
    have := hp.gc lb e; have := hp.ph.lbc; omega
  · by_cases hjk : j = k
    · subst hjk
      simp only [uAt, ite_true, if_true]
      refine ⟨hq.row.kept hg (hne _ j (by omega) hq.cl), ?_⟩
      rw [hc _ (hq.row.lt g (by simp [Value.ownBlock])).2]
      exact hq.cl g (by simp [Value.ownBlock])
    · obtain ⟨h1, h2⟩ := hp.big j (by omega)
      simp only [uAt, if_neg hjk]
      refine ⟨h1.kept hg (hne _ j (by omega) (fun b hb => ?_)), ?_⟩
      · have : ub j = b := by simpa [uAt, Value.ownBlock] using hb
        rw [← this]; exact h2
      · rw [hc _ (h1.lt (ub j) (by simp [uAt, Value.ownBlock])).2]; exact h2
  · have e : (List.range (k + 1)).map (uAt (fun j => if j = k then g else ub j) (fun j => if j = k then cap else uc j) ns) = (List.range k).map (uAt ub uc ns) ++ [.slice (some ⟨g, 0, none⟩) (ns k + 64) cap] := by
      rw [List.range_succ, List.map_append]
      congr 1
      · apply List.map_congr_left
        intro j hj
        have : j ≠ k := by have := List.mem_range.1 hj; omega
        simp [uAt, this]
      · simp [uAt]
    rw [e]; exact hown
  · have : gb = b := by simpa [Value.ownBlock] using hb
    subst this
    exact hcg
end
theorem Tryd.infoS32 : (Tryd.prog.info? 22).map (fun i => (i.zero, i.size, i.bytes)) = some (some (.slice none 0 0), 1, 24) := by kernel_rfl
set_option maxHeartbeats 4000000 in
set_option maxRecDepth 1000000 in
theorem apart_any (W0 : World) (base lb m : Nat) (ax : Nat → Option Addr) (ns cs : Nat → Nat) (cls : Nat → Nat) (hm0 : 0 < m) (hm : m ≤ 16) (hn : ∀ j, j < m → ns j ≤ 1048576)
    (hstart : Ph W0 base lb m ax ns cs cls (fun _ => 0) W0) :
    Calls Tryd.prog 27 #[.slice (some ⟨lb, 0, none⟩) m m] W0 fun e w' => e = .returned (.bool true) ∧ Below base W0 w' := by
  have hm0I : (0 : Int) < m := by omega
  go_enter Tryd.func27, Tryd.ntmps27
  go_wp2
  go_loopw [3] (fun kv wr => ∃ k : Nat, kv = .int .i64 k ∧ k ≤ m ∧ Ph W0 base lb m ax ns cs cls (fun j => if j < k then ns j else 0) wr) (fun kv _ => m - (intOf kv).toNat)
  case atStart => exact ⟨0, rfl, Nat.zero_le _, hstart.congr (fun j hj => by simp)⟩
  case round =>
    obtain ⟨k, rfl, hk, hph⟩ := hrel
    by_cases hlt : k < m
    · have hltI : (k : Int) < m := by omega
      go_wp2
      go_loopw [4] (fun iv wr => ∃ i : Nat, iv = .int .i64 i ∧ i ≤ ns k ∧ Ph W0 base lb m ax ns cs cls (fun j => if j < k then ns j else if j = k then i else 0) wr) (fun iv _ => ns k - (intOf iv).toNat)
      case atStart => exact ⟨0, rfl, Nat.zero_le _, hph.congr (fun j hj => by simp)⟩
      case round =>
        obtain ⟨i, rfl, hi, hph2⟩ := hrel
        have hld := hph2.lst k hlt
        have hnk := hn k hlt
        by_cases hil : i < ns k
        · have hilI : (i : Int) < ns k := by omega
          obtain ⟨g, hg, hgb, hgl, _⟩ := hph2.form hlt (by omega)
          have hst : ∀ w : World, w = wr.drew → Ph W0 base lb m ax ns cs cls (fun j => if j < k then ns j else if j = k then i + 1 else 0) (w.setCell ⟨g, i, none⟩ (.int .i32 (mkI k (i : Nat)))) := fun w hw => by
            subst hw
            exact hph2.drew.store hm hlt hil (by simp) hg (fun j hj => by
              by_cases h1 : j = k
              · subst h1; simp
              · simp [h1])
          rw [vAt, hg] at hld
          have hk0 : (0 : Int) ≤ k := by omega
          have cM : ∀ W : World, Calls Tryd.prog 77 #[.int .i64 k, .int .i64 i] W fun e w' => e = .returned (.int .i32 (mkI (k : Nat) (i : Nat))) ∧ w' = W := fun W =>
            (mark_any k i hk0 (by omega) (by omega) (by omega) W).mono fun e w' ⟨h1, h2⟩ => ⟨h1, h2.symm⟩
          go_wp2_with fail
          refine wp_region_still_tail 9 (by kernel_rfl) (by kernel_rfl) ?_
          simp only [List.take_succ_cons, List.take_zero, List.drop_succ_cons, List.drop_zero]
          repeat (first | still_step | still_call (cM _))
          try refine wpStill_nil ?_
          obtain ⟨⟨old, hold⟩, hfz⟩ := hph2.drew.cellAt hlt hg hil
          have hst1 := hst _ rfl
          change wpList _ _ _ _ _ wr.drew
          generalize wr.drew = w2 at hold hfz hst1 ⊢
          clear hst hph2 hld
          go_wp2
          go_roundw
          case rel => exact ⟨i + 1, by go_num, by omega, hst1⟩
          case measure => simp [intOf]; omega
        · have hge : (ns k : Int) ≤ i := by omega
          go_wp2
          go_roundw
          case rel => exact ⟨k + 1, by go_num, by omega, hph2.congr (fun j hj => by
            by_cases h1 : j = k
            · subst h1; simp; omega
            · by_cases h2 : j < k
              · have h3 : j < k + 1 := by omega
                simp [h2, h3]
              · have h3 : ¬ j < k + 1 := by omega
                simp [h1, h2, h3])⟩
          case measure => simp [intOf]; omega
    · have hge : (m : Int) ≤ k := by omega
      have hph3 : Ph W0 base lb m ax ns cs cls ns wr := hph.congr (fun j hj => by
        have h3 : j < k := by omega
        simp [h3])
      clear hph hstart
      obtain ⟨i0, hi0, hz0, hz1, hz2⟩ := info_parts Tryd.info32
      obtain ⟨i1, hi1, hy0, hy1, hy2⟩ := info_parts Tryd.infoS32
      go_wp2
      go_loopw [5, 6] (fun gv kv wr => ∃ (k : Nat) (cls ub uc : Nat → Nat), kv = .int .i64 k ∧ k ≤ m ∧ Pg W0 base lb m ax ns cs cls ub uc k gv wr) (fun _ kv _ => m - (intOf kv).toNat)
      case atStart => exact ⟨0, cls, ns, ns, rfl, Nat.zero_le _, Pg.start hph3⟩
      case round =>
        obtain ⟨k, cls, ub, uc, rfl, hk, hpg⟩ := hrel
        by_cases hlt : k < m
        · have hltI : (k : Int) < m := by omega
          have hld := hpg.ph.lst k hlt
          have hgk := Gk.start hpg.ph hlt
          go_wp2
          go_loopw [7, 8] (fun gv iv wr => ∃ (i : Nat) (cls : Nat → Nat), iv = .int .i64 i ∧ i ≤ 64 ∧ Pg W0 base lb m ax ns cs cls ub uc k u5 wr ∧ Gk base ns cls k gv i wr) (fun _ iv _ => 64 - (intOf iv).toNat)
          case atStart => exact ⟨0, cls, rfl, by omega, hpg, hgk⟩
          case round =>
            obtain ⟨i, cls, rfl, hi, hpg, hgk⟩ := hrel
            have hld := hpg.ph.lst k hlt
            by_cases hil : i < 64
            · have hilI : (i : Int) < 64 := by omega
              have hk0 : (0 : Int) ≤ k := by omega
              have hnk := hn k hlt
              have hbs : base ≤ wr.heap.size := Nat.le_trans hpg.ph.size hpg.ph.below.size
              have cM : ∀ W : World, Calls Tryd.prog 77 #[.int .i64 k, .int .i64 (ns k + i)] W fun e w' => e = .returned (.int .i32 (mkI (k : Nat) ((ns k + i : Nat) : Int))) ∧ W = w' := fun W => by
                have := mark_any k (ns k + i) hk0 (by omega) (by omega) (by omega) W
                rw [← Int.natCast_add] at this ⊢
                exact this
              obtain ⟨mv, hmv⟩ : ∃ mv, mkI (k : Nat) ((ns k + i : Nat) : Int) = mv := ⟨_, rfl⟩
              rw [hmv] at cM
              have hpg1 := hpg.alloc (.cells #[.int .i32 mv] 21)
              have hgk1 := hgk.alloc (.cells #[.int .i32 mv] 21)
              have Hmv := Lib.hid hmv
              clear hmv
              go_wp2_with fail
              refine (cM _).mono ?_
              rintro e w' ⟨rfl, rfl⟩
              go_wp2_with ((at_builtin; refine Ap.wpList_append_keeps _ rfl (.tmp 50) (.tmp 60) 22 rfl base 21 i0 (.int .i32 0) 1 4 Tryd.underlying22 hi0 hz0 hz1 hz2 rfl (by decide) u7 (ns k + i) (cI (mkL k (ns k + i))) (by simp [Act.eval]) hgk1.row ⟨wr.heap.size, 0, none⟩ 1 1 [.int .i32 mv] (by simp [Act.eval]) rfl (World.news_of_block (heap_alloc_new wr (.cells #[.int .i32 mv] 21))) (by intro u hu; simp at hu; subst hu; rfl) (by decide) (by unfold maxLen; omega) (by omega) (by simp; omega) _ rfl ?_; intro g cap w1 hown hgr hlies hlt1 hkeep))
              obtain ⟨cls', hpg2, hgk2⟩ := hpg1.grow hgk1 hlt hm (by rw [Hmv.out]; exact hown) hgr hlies hkeep
              clear hpg hgk hpg1 hgk1 hown hgr hlies hlt1 hkeep hld cM
              go_wp2
              go_roundw
              case rel => exact ⟨i + 1, cls', by go_num, by omega, hpg2, hgk2⟩
              case measure => simp [intOf]; omega
            · have hge : (64 : Int) ≤ i := by omega
              obtain rfl : i = 64 := by omega
              obtain ⟨g, cap, rfl, hgb, hgl⟩ := hgk.row.form (by omega)
              have hpg1 := hpg.alloc (.cells #[.slice (some ⟨g, 0, none⟩) (ns k + 64) cap] 22)
              have hgk1 := hgk.alloc (.cells #[.slice (some ⟨g, 0, none⟩) (ns k + 64) cap] 22)
              have hbs : base ≤ wr.heap.size := Nat.le_trans hpg.ph.size hpg.ph.below.size
              go_wp2_with ((at_builtin; refine wpList_append_lies _ rfl (.tmp 62) (.tmp 64) 26 rfl base 22 i1 (.slice none 0 0) 1 24 Tryd.underlying26 hi1 hy0 hy1 hy2 rfl (by decide) u5 k ((List.range k).map (uAt ub uc ns)) (by simp [Act.eval]) hpg1.gs ⟨wr.heap.size, 0, none⟩ 1 1 [.slice (some ⟨g, 0, none⟩) (ns k + 64) cap] (by simp [Act.eval]) rfl (World.news_of_block (heap_alloc_new wr (.cells #[.slice (some ⟨g, 0, none⟩) (ns k + 64) cap] 22))) (by intro u hu; simp at hu; subst hu; rfl) (by decide) (by unfold maxLen; omega) (by omega) (by simp; omega) _ rfl ?_; intro gb gcap w1 hown hgr hlies hlt1))
              obtain ⟨cls', ub', uc', hpg2⟩ := hpg1.push hgk1 hlt hm hown hgr hlies
              clear hpg hgk hpg1 hgk1 hown hgr hlies hlt1 hld
              go_wp2
              go_roundw
              case rel => exact ⟨k + 1, cls', ub', uc', by go_num, by omega, hpg2⟩
              case measure => simp [intOf]; omega
        · have hge : (m : Int) ≤ k := by omega
          obtain rfl : k = m := by omega
          obtain ⟨gb, gcap, rfl, hgbb, hgbl⟩ := hpg.gs.form hm0
          have hG : ∀ j, j < k → wr.cell? ⟨gb, j, none⟩ = some (uAt ub uc ns j) := fun j hj => by
            rw [hpg.gs.cellAt j (by omega)]; simp [hj]
          have hU : ∀ j, j < k → ∀ i, i < ns j + 64 → wr.cell? ⟨ub j, i, none⟩ = some (.int .i32 (mkI (j : Nat) (i : Nat))) := fun j hj i hi => by
            rw [(hpg.big j hj).1.cellAt i (by omega)]; simp [cI, mkL_get hi]
          have hLs := hpg.ph.lst
          have hVs : ∀ j, j < k → ∀ g i, ax j = some ⟨g, 0, none⟩ → i < ns j → wr.cell? ⟨g, i, none⟩ = some (.int .i32 (mkI (j : Nat) (i : Nat))) := fun j hj g i hg hi => by
            have h1 := (Gk.start hpg.ph hj).row
            have e : vAt ax ns cs j = .slice (some ⟨g, 0, none⟩) (ns j) (cs j) := by simp [vAt, hg]
            rw [Nat.add_zero, e] at h1
            rw [h1.cellAt i (by omega)]; simp [cI, mkL_get hi]
          have hform := fun j (hj : j < k) (h0 : 0 < ns j) => hpg.ph.form hj h0
          have hbel := hpg.ph.below
          have HG := Lib.hid hG
          have HU := Lib.hid hU
          have HLs := Lib.hid hLs
          have HVs := Lib.hid hVs
          have Hform := Lib.hid hform
          clear hG hU hLs hVs hform hpg hph3
          go_wp2
          go_loopw [9] (fun kv w2 => ∃ j : Nat, kv = .int .i64 j ∧ j ≤ k ∧ w2 = wr) (fun kv _ => k - (intOf kv).toNat)
          case atStart => exact ⟨0, rfl, Nat.zero_le _, rfl⟩
          case round =>
            obtain ⟨j, rfl, hj, rfl⟩ := hrel
            by_cases hjl : j < k
            · have hjI : (j : Int) < k := by omega
              have hGj := HG.out j hjl
              have hLj := HLs.out j hjl
              have hnj := hn j hjl
              go_wp2
              go_loopw [10] (fun iv w2 => ∃ i : Nat, iv = .int .i64 i ∧ i ≤ ns j + 64 ∧ w2 = wr) (fun iv _ => ns j + 64 - (intOf iv).toNat)
              case atStart => exact ⟨0, rfl, Nat.zero_le _, rfl⟩
              case round =>
                obtain ⟨i, rfl, hi, rfl⟩ := hrel
                by_cases hil : i < ns j + 64
                · have hiI : (i : Int) < (ns j : Int) + 64 := by omega
                  have hUi := HU.out j hjl i hil
                  have hj0 : (0 : Int) ≤ j := by omega
                  have cM : ∀ W : World, Calls Tryd.prog 77 #[.int .i64 j, .int .i64 i] W fun e w' => e = .returned (.int .i32 (mkI (j : Nat) (i : Nat))) ∧ W = w' := fun W => mark_any j i hj0 (by omega) (by omega) (by omega) W
                  obtain ⟨mv, hmv⟩ : ∃ mv, mkI (j : Nat) (i : Nat) = mv := ⟨_, rfl⟩
                  rw [hmv] at cM hUi
                  by_cases hin : i < ns j
                  · have hinI : (i : Int) < ns j := by omega
                    obtain ⟨g, hg, _⟩ := Hform.out j hjl (by omega)
                    have hVi := HVs.out j hjl g i hg hin
                    rw [hmv] at hVi
                    rw [vAt, hg] at hLj
                    clear hg hmv
                    go_wp2_with fail
                    refine (cM _).mono ?_
                    rintro e w' ⟨rfl, rfl⟩
                    go_wp2
                    go_roundw
                    case rel => exact ⟨i + 1, by go_num, by omega, trivial⟩
                    case measure => simp [intOf]; omega
                  · have hinI : decide ((i : Int) < ns j) = false := by simp; omega
                    have hgeI : (ns j : Int) ≤ i := by omega
                    clear hmv
                    go_wp2_with fail
                    refine (cM _).mono ?_
                    rintro e w' ⟨rfl, rfl⟩
                    go_wp2
                    go_roundw
                    case rel => exact ⟨i + 1, by go_num, by omega, trivial⟩
                    case measure => simp [intOf]; omega
                · have hge2 : (ns j : Int) + 64 ≤ i := by omega
                  go_wp2
                  go_roundw
                  case rel => exact ⟨j + 1, by go_num, by omega, trivial⟩
                  case measure => simp [intOf]; omega
            · have hge2 : (k : Int) ≤ j := by omega
              go_wp2
              go_ret
              exact ⟨rfl, hbel⟩
end Go.Proofs.YtbkimhbpcmbflaaDoor.C
set_option linter.unusedVariables false
set_option linter.unusedSimpArgs false
namespace Go.Proofs.YtbkimhbpcmbflaaDoor.C
open Go Go.RowKit Go.Proofs.YtbkimhbpcmbflaaDoor.M Go.Proofs.YtbkimhbpcmbflaaDoor.E Go.Proofs.YtbkimhbpcmbflaaDoor.PAll Go.Proofs.YtbkimhbpcmbflaaDoorW.PrintWords
theorem refOf_any (s : ByteArray) (hs : s.size ≤ 1048576) (W : World) : Calls Tryd.prog 24 #[.string s] W fun e w' => ∃ A c, e = .returned (.slice A (pts (bl s)).length c) ∧ (pts (bl s)).length ≤ c ∧ Rd w' w'.heap.size .i32 A (pts (bl s)) ∧ Below W.heap.size W w' := by
  obtain ⟨k, hk⟩ := of_ref s (by omega)
  refine (glossaryref02_Of.calls k s _ W hk).mono fun e w' ⟨v, he, hr, hb⟩ => ?_
  obtain ⟨A, c, rfl, hc, hrd⟩ := R_rd hr
  exact ⟨A, c, he, hc, hrd, hb⟩
theorem ofRow_any (s : ByteArray) (hs : s.size ≤ 1048576) (W : World) : Calls Tryd.prog 25 #[.string s] W fun e w' => ∃ A c, e = .returned (.slice A (pts (bl s)).length c) ∧ (pts (bl s)).length ≤ c ∧ Rd w' w'.heap.size .i32 A (pts (bl s)) ∧
    w'.ownsRow W.heap.size 21 1 (.slice A (pts (bl s)).length c) (pts (bl s)).length (cI (pts (bl s))) ∧ Below W.heap.size W w' := by
  have h1 := sfx_len (bl s)
  rw [bl_len] at h1
  refine (of_any s W (by omega) (by omega)).mono fun e w' ⟨v, he, hr, hb⟩ => ?_
  obtain ⟨A, c, rfl, hc, hrd⟩ := hr.reads
  exact ⟨A, c, he, hc, hrd, hr, hb⟩
theorem owns_below {w w' : World} {base B size n : Nat} {e : TypeId} {v : Value} {xs : List Value} (h : w.ownsRow base e size v n xs) (hb : Below B w w') (hB : w.heap.size ≤ B) : w'.ownsRow base e size v n xs :=
  h.kept (row := none) ⟨hb.os, hb.tape, hb.output, hb.size, fun k hk _ => hb.block k (by omega)⟩ (by cases v.ownBlock <;> simp)
/-- a list of the call's own, and where it lies -/
structure Ow (W : World) (lo hi : Nat) (A : Option Addr) (n c : Nat) : Prop where
  row : ∃ xs : List Int, W.ownsRow lo 21 1 (.slice A n c) n (cI xs)
  le : ∀ b, (Value.slice A n c).ownBlock = some b → lo ≤ b ∧ b < hi
theorem Ow.of {W : World} {lo n c : Nat} {A : Option Addr} {xs : List Int} (h : W.ownsRow lo 21 1 (.slice A n c) n (cI xs)) : Ow W lo W.heap.size A n c := ⟨⟨xs, h⟩, fun b hb => h.lt b hb⟩
theorem Ow.next {W W' : World} {lo hi n c : Nat} {A : Option Addr} (h : Ow W lo hi A n c) (hb : Below W.heap.size W W') : Ow W' lo hi A n c := by
  obtain ⟨⟨xs, h1⟩, h2⟩ := h
  exact ⟨⟨xs, owns_below h1 hb (Nat.le_refl _)⟩, h2⟩
theorem Ow.alloc {W : World} {lo hi n c : Nat} {A : Option Addr} (h : Ow W lo hi A n c) (o : Obj) : Ow (W.alloc o) lo hi A n c := by
  obtain ⟨⟨xs, h1⟩, h2⟩ := h
  exact ⟨⟨xs, h1.alloc o⟩, h2⟩
theorem owns_mono {w : World} {base base' size n : Nat} {e : TypeId} {v : Value} {xs : List Value} (h : w.ownsRow base e size v n xs) (hb : base' ≤ base) : w.ownsRow base' e size v n xs := by
  refine ⟨h.1, ?_⟩
  rcases h.2 with h | ⟨g, cap, cur, h1, h2, h3⟩
  · exact .inl h
  · exact .inr ⟨g, cap, cur, h1, by omega, h3⟩
theorem apart4 (W : World) (b0 b1 b2 b3 b4 : Nat) (A1 A2 A3 A4 : Option Addr) (n1 n2 n3 n4 c1 c2 c3 c4 : Nat) (hb : b0 ≤ b1 ∧ b1 ≤ b2 ∧ b2 ≤ b3 ∧ b3 ≤ b4 ∧ b4 ≤ W.heap.size)
    (h1 : Ow W b0 b1 A1 n1 c1) (h2 : Ow W b1 b2 A2 n2 c2) (h3 : Ow W b2 b3 A3 n3 c3) (h4 : Ow W b3 b4 A4 n4 c4) (hn1 : n1 ≤ 1048576) (hn2 : n2 ≤ 1048576) (hn3 : n3 ≤ 1048576) (hn4 : n4 ≤ 1048576) :
    Calls Tryd.prog 27 #[.slice (some ⟨W.heap.size, 0, none⟩) 4 4] (W.alloc (.cells #[.slice A1 n1 c1, .slice A2 n2 c2, .slice A3 n3 c3, .slice A4 n4 c4] 22)) fun e w' => e = .returned (.bool true) ∧ Below b0 W w' := by
  have hblk := heap_alloc_new W (.cells #[.slice A1 n1 c1, .slice A2 n2 c2, .slice A3 n3 c3, .slice A4 n4 c4] 22)
  have hb0 : Below b0 W (W.alloc (.cells #[.slice A1 n1 c1, .slice A2 n2 c2, .slice A3 n3 c3, .slice A4 n4 c4] 22)) := (Below.refl _ _).alloc (by omega) _
  have k1 := h1.alloc (.cells #[.slice A1 n1 c1, .slice A2 n2 c2, .slice A3 n3 c3, .slice A4 n4 c4] 22)
  have k2 := h2.alloc (.cells #[.slice A1 n1 c1, .slice A2 n2 c2, .slice A3 n3 c3, .slice A4 n4 c4] 22)
  have k3 := h3.alloc (.cells #[.slice A1 n1 c1, .slice A2 n2 c2, .slice A3 n3 c3, .slice A4 n4 c4] 22)
  have k4 := h4.alloc (.cells #[.slice A1 n1 c1, .slice A2 n2 c2, .slice A3 n3 c3, .slice A4 n4 c4] 22)
  have hs : (W.alloc (.cells #[.slice A1 n1 c1, .slice A2 n2 c2, .slice A3 n3 c3, .slice A4 n4 c4] 22)).heap.size = W.heap.size + 1 := by simp
  generalize W.alloc (.cells #[.slice A1 n1 c1, .slice A2 n2 c2, .slice A3 n3 c3, .slice A4 n4 c4] 22) = W1 at *
  refine (apart_any W1 b0 W.heap.size 4 (fun j => [A1, A2, A3, A4].getD j none) (fun j => [n1, n2, n3, n4].getD j 0) (fun j => [c1, c2, c3, c4].getD j 0) (fun b => if b < b1 then 0 else if b < b2 then 1 else if b < b3 then 2 else if b < b4 then 3 else 100) (by decide) (by decide) ?_ ?_).mono ?_
  · intro j hj
    match j, hj with
    | 0, _ => exact hn1
    | 1, _ => exact hn2
    | 2, _ => exact hn3
    | 3, _ => exact hn4
  · refine ⟨Below.refl _ _, by omega, by omega, ?_, ?_, ?_, ?_⟩
    · intro j hj
      rw [cell_of_row _ _ _ _ _ _ hblk]
      match j, hj with
      | 0, _ => rfl
      | 1, _ => rfl
      | 2, _ => rfl
      | 3, _ => rfl
    · show (if W.heap.size < b1 then 0 else if W.heap.size < b2 then 1 else if W.heap.size < b3 then 2 else if W.heap.size < b4 then 3 else 100) = 100
      rw [if_neg (by omega), if_neg (by omega), if_neg (by omega), if_neg (by omega)]
    · intro j hj
      match j, hj with
      | 0, _ => obtain ⟨xs, h⟩ := k1.row; exact ⟨xs, h, fun t ht => by omega⟩
      | 1, _ => obtain ⟨xs, h⟩ := k2.row; exact ⟨xs, owns_mono h (by omega), fun t ht => by omega⟩
      | 2, _ => obtain ⟨xs, h⟩ := k3.row; exact ⟨xs, owns_mono h (by omega), fun t ht => by omega⟩
      | 3, _ => obtain ⟨xs, h⟩ := k4.row; exact ⟨xs, owns_mono h (by omega), fun t ht => by omega⟩
    · intro j hj b hbb
      match j, hj with
      | 0, _ => have := k1.le b hbb; show (if b < b1 then 0 else if b < b2 then 1 else if b < b3 then 2 else if b < b4 then 3 else 100) = 0; rw [if_pos (by omega)]
      | 1, _ => have := k2.le b hbb; show (if b < b1 then 0 else if b < b2 then 1 else if b < b3 then 2 else if b < b4 then 3 else 100) = 1; rw [if_neg (by omega), if_pos (by omega)]
      | 2, _ => have := k3.le b hbb; show (if b < b1 then 0 else if b < b2 then 1 else if b < b3 then 2 else if b < b4 then 3 else 100) = 2; rw [if_neg (by omega), if_neg (by omega), if_pos (by omega)]
      | 3, _ => have := k4.le b hbb; show (if b < b1 then 0 else if b < b2 then 1 else if b < b3 then 2 else if b < b4 then 3 else 100) = 3; rw [if_neg (by omega), if_neg (by omega), if_neg (by omega), if_pos (by omega)]
  · rintro e w' ⟨he, hb'⟩
    exact ⟨he, hb0.trans hb'⟩
set_option maxHeartbeats 4000000 in
set_option maxRecDepth 1000000 in
theorem law_PointsOf (w : World) (hE : HE w) (s : ByteArray) (hs0 : s.size ≤ 140737488351232) (hs : s.size ≤ 1048576) (t : ByteArray) (ht0 : t.size ≤ 140737488351232) (ht : t.size ≤ 1048576) :
    Calls Tryd.prog 3 #[.string s, .string t] w fun e w' => e = .returned (.bool true) ∧ Below w.heap.size w w' := by
  have hps := pts_len (bl s)
  have hpt := pts_len (bl t)
  rw [bl_len] at hps hpt
  have cR := fun W => refOf_any s hs W
  have cRt := fun W => refOf_any t ht W
  have cO := fun W => ofRow_any s hs W
  have cOt := fun W => ofRow_any t ht W
  have cS := fun (W : World) (A1 A2 : Option Addr) (c1 c2 : Nat) (h1 : Rd W W.heap.size .i32 A1 (pts (bl s))) (h2 : Rd W W.heap.size .i32 A2 (pts (bl s))) (hc1 : (pts (bl s)).length ≤ c1) (hc2 : (pts (bl s)).length ≤ c2) => same_any (pts (bl s)) (by omega) W A1 A2 c1 c2 h1 h2 hc1 hc2
  have cSt := fun (W : World) (A1 A2 : Option Addr) (c1 c2 : Nat) (h1 : Rd W W.heap.size .i32 A1 (pts (bl t))) (h2 : Rd W W.heap.size .i32 A2 (pts (bl t))) (hc1 : (pts (bl t)).length ≤ c1) (hc2 : (pts (bl t)).length ≤ c2) => same_any (pts (bl t)) (by omega) W A1 A2 c1 c2 h1 h2 hc1 hc2
  have hns : (pts (bl s)).length ≤ 1048576 := by omega
  have hnt : (pts (bl t)).length ≤ 1048576 := by omega
  clear hps hpt
  generalize hn : (pts (bl s)).length = n at *
  generalize hm : (pts (bl t)).length = m at *
  generalize pts (bl s) = xs at *
  generalize pts (bl t) = ys at *
  clear hn hm
  go_enter Tryd.func3, Tryd.ntmps3
  go_wp2_with fail
  refine (cR _).mono ?_
  rintro e w1 ⟨A0, c0, rfl, hc0, r0, b1⟩
  go_wp2_with fail
  refine (cO _).mono ?_
  rintro e w2 ⟨A1, c1, rfl, hc1, r1, o1, b2⟩
  have o1 := Ow.of o1
  have r0 := (r0.below b2 (Nat.le_refl _)).more b2.size
  go_wp2_with fail
  refine (cO _).mono ?_
  rintro e w3 ⟨A2, c2, rfl, hc2, r2, o2, b3⟩
  have o2 := Ow.of o2
  have o1 := o1.next b3
  have r0 := (r0.below b3 (Nat.le_refl _)).more b3.size
  have r1 := (r1.below b3 (Nat.le_refl _)).more b3.size
  go_wp2_with fail
  refine (cOt _).mono ?_
  rintro e w4 ⟨A3, c3, rfl, hc3, r3, o3, b4⟩
  have o3 := Ow.of o3
  have o1 := o1.next b4
  have o2 := o2.next b4
  have r0 := (r0.below b4 (Nat.le_refl _)).more b4.size
  have r1 := (r1.below b4 (Nat.le_refl _)).more b4.size
  have r2 := (r2.below b4 (Nat.le_refl _)).more b4.size
  go_wp2_with fail
  refine (cO _).mono ?_
  rintro e w5 ⟨A4, c4, rfl, hc4, r4, o4, b5⟩
  have o4 := Ow.of o4
  have o1 := o1.next b5
  have o2 := o2.next b5
  have o3 := o3.next b5
  have r0 := (r0.below b5 (Nat.le_refl _)).more b5.size
  have r1 := (r1.below b5 (Nat.le_refl _)).more b5.size
  have r2 := (r2.below b5 (Nat.le_refl _)).more b5.size
  have r3 := (r3.below b5 (Nat.le_refl _)).more b5.size
  have z5 := b5.size
  have b05 := (((b1.trans (b2.mono b1.size)).trans (b3.mono (Nat.le_trans b1.size b2.size))).trans (b4.mono (Nat.le_trans b1.size (Nat.le_trans b2.size b3.size)))).trans (b5.mono (Nat.le_trans b1.size (Nat.le_trans b2.size (Nat.le_trans b3.size b4.size))))
  have z1 := b1.size
  have z2 := b2.size
  have z3 := b3.size
  have z4 := b4.size
  clear cO cOt cR b1 b2 b3 b4 b5
  go_wp2_with fail
  refine (cS _ _ _ _ _ r1 r0 hc1 hc0).mono ?_
  rintro e w6 ⟨rfl, b6⟩
  have o1 := o1.next b6
  have o2 := o2.next b6
  have o3 := o3.next b6
  have o4 := o4.next b6
  have r0 := (r0.below b6 (Nat.le_refl _)).more b6.size
  have r2 := (r2.below b6 (Nat.le_refl _)).more b6.size
  have r3 := (r3.below b6 (Nat.le_refl _)).more b6.size
  have r4 := (r4.below b6 (Nat.le_refl _)).more b6.size
  go_wp2_with fail
  refine (cS _ _ _ _ _ r2 r0 hc2 hc0).mono ?_
  rintro e w7 ⟨rfl, b7⟩
  have o1 := o1.next b7
  have o2 := o2.next b7
  have o3 := o3.next b7
  have o4 := o4.next b7
  have r0 := (r0.below b7 (Nat.le_refl _)).more b7.size
  have r3 := (r3.below b7 (Nat.le_refl _)).more b7.size
  have r4 := (r4.below b7 (Nat.le_refl _)).more b7.size
  go_wp2_with fail
  refine (cRt _).mono ?_
  rintro e w8 ⟨A5, c5, rfl, hc5, r5, b8⟩
  have o1 := o1.next b8
  have o2 := o2.next b8
  have o3 := o3.next b8
  have o4 := o4.next b8
  have r0 := (r0.below b8 (Nat.le_refl _)).more b8.size
  have r3 := (r3.below b8 (Nat.le_refl _)).more b8.size
  have r4 := (r4.below b8 (Nat.le_refl _)).more b8.size
  go_wp2_with fail
  refine (cSt _ _ _ _ _ r3 r5 hc3 hc5).mono ?_
  rintro e w9 ⟨rfl, b9⟩
  have o1 := o1.next b9
  have o2 := o2.next b9
  have o3 := o3.next b9
  have o4 := o4.next b9
  have r0 := (r0.below b9 (Nat.le_refl _)).more b9.size
  have r4 := (r4.below b9 (Nat.le_refl _)).more b9.size
  go_wp2_with fail
  refine (cS _ _ _ _ _ r4 r0 hc4 hc0).mono ?_
  rintro e wa ⟨rfl, ba⟩
  have o1 := o1.next ba
  have o2 := o2.next ba
  have o3 := o3.next ba
  have o4 := o4.next ba
  have b5a := (((b6.trans (b7.mono b6.size)).trans (b8.mono (Nat.le_trans b6.size b7.size))).trans (b9.mono (Nat.le_trans b6.size (Nat.le_trans b7.size b8.size)))).trans (ba.mono (Nat.le_trans b6.size (Nat.le_trans b7.size (Nat.le_trans b8.size b9.size))))
  have z5a := b5a.size
  have cA := apart4 wa _ _ _ _ _ A1 A2 A3 A4 _ _ _ _ c1 c2 c3 c4 ⟨z2, z3, z4, z5, z5a⟩ o1 o2 o3 o4 hns hns hnt hns
  have bwa := b05.trans (b5a.mono (by omega))
  clear cS cSt cRt r0 r4 r5 b6 b7 b8 b9 ba o1 o2 o3 o4
  go_wp2_with fail
  refine cA.mono ?_
  rintro e wb ⟨rfl, bb⟩
  have bwb := bwa.trans (bb.mono z1)
  have hEb : HE wb := hE.below bwb (Nat.le_refl _)
  go_wp2_with fail
  refine (works_any _ hEb).mono ?_
  rintro e wc ⟨rfl, bc⟩
  go_wp2
  go_ret
  exact ⟨rfl, bwb.trans (bc.mono bwb.size)⟩
end Go.Proofs.YtbkimhbpcmbflaaDoor.C
set_option linter.unusedVariables false
set_option linter.unusedSimpArgs false
namespace Go.Proofs.YtbkimhbpcmbflaaDoor.C
open Go Go.RowKit Go.Shelf Go.Proofs.YtbkimhbpcmbflaaDoor.M Go.Proofs.YtbkimhbpcmbflaaDoor.E Go.Proofs.YtbkimhbpcmbflaaDoor.PAll Go.Proofs.YtbkimhbpcmbflaaDoorW.PrintWords
/-- the world, as the whole statement knows it -/
structure KP (w W : World) : Prop where
  bel : Below w.heap.size w W
  tabs : Lib.Utf8Tabs 0 1 W
  he : HE W
theorem KP.next {w W W' : World} (h : KP w W) (hb : Below W.heap.size W W') : KP w W' := ⟨h.bel.trans (hb.mono h.bel.size), tabs_below h.tabs hb (Nat.le_refl _), h.he.below hb (Nat.le_refl _)⟩
theorem KP.alloc {w W : World} (h : KP w W) (o : Obj) : KP w (W.alloc o) := h.next ((Below.refl _ _).alloc (Nat.le_refl _) o)
theorem bel_alloc (W : World) (o : Obj) : Below W.heap.size W (W.alloc o) := (Below.refl _ _).alloc (Nat.le_refl _) o
theorem rd_alloc (W : World) (k : IntKind) (xs : List Int) (C : Array Value) (T : TypeId) (hC : C = (xs.map (Value.int k)).toArray) : Rd (W.alloc (.cells C T)) (W.alloc (.cells C T)).heap.size k (some ⟨W.heap.size, 0, none⟩) xs := by
  subst hC
  refine .inr ⟨_, rfl, by show W.heap.size < (W.heap.push _).size; rw [Array.size_push]; omega, fun j u hj => ?_⟩
  have e : (⟨W.heap.size, 0, none⟩ : Addr).add j = ⟨W.heap.size, j, none⟩ := by
    simp [Addr.add]
    exact fun h => h.symm
  rw [e, cell_of_row _ _ _ _ _ _ (heap_alloc_new W _)]
  simp [hj]
theorem isrow_rd {W : World} {k : IntKind} {g n : Nat} {xs : List Int} (h : Rd W W.heap.size k (some ⟨g, 0, none⟩) xs) (hn : xs.length = n) (hm : n ≤ 1000) (h0 : 0 < n) (hw : ∀ x ∈ xs, (Lit.int k x).wf = true) : IsRow k W (some ⟨g, 0, none⟩) n n xs := by
  rcases h with rfl | ⟨x, hx, hb, hc⟩
  · simp at hn; omega
  · cases hx
    refine .inr ⟨_, rfl, fun _ => hb, Nat.le_refl _, Nat.le_trans hm (by decide), hn, fun i hi => ?_, hw⟩
    refine hc i _ ?_
    rw [List.getD_eq_getElem?_getD, List.getElem?_eq_getElem hi]
    rfl
theorem kp_of {w W : World} (h : KP w W) (s : ByteArray) (xs : List Int) (n : Nat) (hs : s.size ≤ 100) (hx : pts (bl s) = xs) (hn : xs.length = n) : Calls Tryd.prog 25 #[.string s] W fun e w' => ∃ A c, e = .returned (.slice A n c) ∧ n ≤ c ∧ Rd w' w'.heap.size .i32 A xs ∧ Below W.heap.size W w' ∧ KP w w' := by
  refine (ofRow_any s (by omega) W).mono ?_
  rintro e w' ⟨A, c, h1, h2, h3, _, h4⟩
  rw [hx] at h1 h2 h3
  rw [hn] at h1 h2
  exact ⟨A, c, h1, h2, h3, h4, h.next h4⟩
theorem kp_text {w W : World} (h : KP w W) (xs : List Int) (C : Array Value) (T : TypeId) (n : Nat) (t : ByteArray) (hC : C = (xs.map (Value.int .i32)).toArray) (hn : xs.length = n) (hm : n ≤ 1000) (hx : ∀ x ∈ xs, -2147483648 ≤ x ∧ x ≤ 2147483647) (hp : ∀ x ∈ xs, isPt x = true) (ht : (⟨(textP xs).toArray⟩ : ByteArray) = t) :
    Calls Tryd.prog 31 #[.slice (some ⟨W.heap.size, 0, none⟩) n n] (W.alloc (.cells C T)) fun e w' => e = .returned (.tuple #[.string t, .nilIface]) ∧ Below W.heap.size W w' ∧ KP w w' := by
  have c := text_any (W.alloc (.cells C T)) (some ⟨W.heap.size, 0, none⟩) n xs (by omega) hx (rd_alloc W .i32 xs C T hC)
  rw [hn, ht] at c
  refine c.mono fun e w' ⟨he, hb⟩ => ?_
  have hb' := (bel_alloc W (.cells C T)).trans (hb.mono (bel_alloc W (.cells C T)).size)
  rcases he with ⟨_, he⟩ | ⟨k, x, hk, hp', _, _⟩
  · exact ⟨he, hb', h.next hb'⟩
  · have := hp x (List.mem_of_getElem? hk)
    rw [hp'] at this
    exact absurd this (by simp)
theorem kp_bad {w W : World} (h : KP w W) (x : Int) (C : Array Value) (T : TypeId) (hC : C = #[.int .i32 x]) (hx : -2147483648 ≤ x ∧ x ≤ 2147483647) (hp : isPt x = false) :
    Calls Tryd.prog 31 #[.slice (some ⟨W.heap.size, 0, none⟩) 1 1] (W.alloc (.cells C T)) fun e w' => e = .returned (.tuple #[.string ⟨#[]⟩, flt 8 0 0]) ∧ Below W.heap.size W w' ∧ KP w w' := by
  have c := text_any (W.alloc (.cells C T)) (some ⟨W.heap.size, 0, none⟩) 1 [x] (by simp) (by simpa using hx) (rd_alloc W .i32 [x] C T hC)
  refine c.mono fun e w' ⟨he, hb⟩ => ?_
  have hb' := (bel_alloc W (.cells C T)).trans (hb.mono (bel_alloc W (.cells C T)).size)
  rcases he with ⟨hall, _⟩ | ⟨k, y, hk, _, _, he⟩
  · have := hall x (by simp)
    rw [hp] at this
    exact absurd this (by simp)
  · rcases k with _ | k
    · exact ⟨he, hb', h.next hb'⟩
    · simp at hk
theorem kp_at {w W : World} (h : KP w W) : Calls Tryd.prog 33 #[flt 8 0 0, .int .i64 8, .int .i64 0, .int .i64 0] W fun e w' => e = .returned (.bool true) ∧ KP w w' :=
  (at_fault 8 0 0 W (by decide) (by decide) h.he).mono fun e w' ⟨he, hb⟩ => ⟨he, h.next hb⟩
theorem kp_same {w W : World} (h : KP w W) (xs : List Int) (n : Nat) (hn : xs.length = n) (hm : n ≤ 1000) (A1 A2 : Option Addr) (c1 c2 : Nat) (h1 : Rd W W.heap.size .i32 A1 xs) (h2 : Rd W W.heap.size .i32 A2 xs) (hc1 : n ≤ c1) (hc2 : n ≤ c2) :
    Calls Tryd.prog 26 #[.slice A1 n c1, .slice A2 n c2] W fun e w' => e = .returned (.bool true) ∧ Below W.heap.size W w' ∧ KP w w' := by
  have c := same_any xs (by omega) W A1 A2 c1 c2 h1 h2 (by omega) (by omega)
  rw [hn] at c
  exact c.mono fun e w' ⟨he, hb⟩ => ⟨he, hb, h.next hb⟩
theorem kp_measure {w W : World} (h : KP w W) (s : ByteArray) (us : List (List UInt8)) (hs : s.size ≤ 100) (hx : sfx (bl s) = us) : Calls Tryd.prog 51 #[.string s] W fun e w' => ∃ p, e = .returned (.pointer (some ⟨p, 0, none⟩)) ∧ PL w' w'.heap.size p us ∧ KP w w' := by
  refine (measure_PL s W h.tabs (by omega)).mono ?_
  rintro e w' ⟨p, h1, h2, h3⟩
  rw [hx] at h2
  exact ⟨p, h1, h2, h.next h3⟩
/-- what is known of a world in which a document is laid -/
structure KM (w : World) (p : Nat) (us : List (List UInt8)) (W : World) : Prop where
  kp : KP w W
  pl : PL W W.heap.size p us
theorem KM.next {w : World} {p : Nat} {us : List (List UInt8)} {W W' : World} (h : KM w p us W) (hb : Below W.heap.size W W') : KM w p us W' :=
  ⟨h.kp.next hb, by
    obtain ⟨g, cap, h1, h2, h3⟩ := h.pl.below hb (Nat.le_refl _)
    exact ⟨g, cap, Nat.lt_of_lt_of_le h1 hb.size, Nat.lt_of_lt_of_le h2 hb.size, h3⟩⟩
theorem km_units {w W : World} {p : Nat} {us : List (List UInt8)} (h : KM w p us W) (n : Nat) (hn : us.length = n) (hm : n ≤ 1000) : Calls Tryd.prog 52 #[.pointer (some ⟨p, 0, none⟩)] W fun e w' => e = .returned (.int .i64 n) ∧ KM w p us w' := by
  have c := units_any W W.heap.size p us h.pl (by omega)
  rw [hn] at c
  exact c.mono fun e w' ⟨he, hb⟩ => ⟨he, hb ▸ h⟩
theorem km_byte {w W : World} {p : Nat} {us : List (List UInt8)} (h : KM w p us W) (u a : Int) (hm : us.length ≤ 1000) (ha : ((off us (clampN us.length u) : Nat) : Int) = a) : Calls Tryd.prog 55 #[.pointer (some ⟨p, 0, none⟩), .int .i64 u] W fun e w' => e = .returned (.int .i64 a) ∧ KM w p us w' := by
  have c := byte_any W W.heap.size p us h.pl (by omega) u
  rw [ha] at c
  exact c.mono fun e w' ⟨he, hb⟩ => ⟨he, h.next hb⟩
theorem km_unit {w W : World} {p : Nat} {l : List UInt8} (h : KM w p (sfx l) W) (a : Int) (i : Nat) (b : Bool) (hm : l.length ≤ 1000) (hi : IsU l a i) (hb : ((off (sfx l) i : Int) == (clampA l.length a : Int)) = b) : Calls Tryd.prog 64 #[.pointer (some ⟨p, 0, none⟩), .int .i64 a] W fun e w' => e = .returned (.tuple #[.int .i64 (i : Nat), .bool b]) ∧ KM w p (sfx l) w' := by
  refine (unit_any W W.heap.size p l h.pl (by omega) a).mono ?_
  rintro e w' ⟨j, hj, he, hb'⟩
  obtain rfl := IsU.unique hi hj
  rw [hb] at he
  exact ⟨he, h.next hb'⟩
theorem km_wide {w W : World} {p : Nat} {l : List UInt8} (h : KM w p (sfx l) W) (a : Int) (i : Nat) (v : Int) (hm : l.length ≤ 1000) (hi : IsU l a i) (hv : wsum ((pts l).take i) = v) : Calls Tryd.prog 62 #[.pointer (some ⟨p, 0, none⟩), .int .i64 a] W fun e w' => e = .returned (.int .i64 v) ∧ KM w p (sfx l) w' := by
  have c := wide_any W W.heap.size p l h.pl (Nat.le_refl _) (by omega) a i hi
  rw [hv] at c
  exact c.mono fun e w' ⟨he, hb⟩ => ⟨he, h.next hb⟩
theorem km_line {w W : World} {p : Nat} {l : List UInt8} (h : KM w p (sfx l) W) (a : Int) (i : Nat) (x y : Int) (hm : l.length ≤ 1000) (hi : IsU l a i) (hv : lfold 1 1 ((pts l).take i) = (x, y)) : Calls Tryd.prog 103 #[.pointer (some ⟨p, 0, none⟩), .int .i64 a] W fun e w' => e = .returned (.tuple #[.int .i64 x, .int .i64 y]) ∧ KM w p (sfx l) w' := by
  have c := line_any W W.heap.size p l h.pl (Nat.le_refl _) (by omega) a i hi
  rw [hv] at c
  exact c.mono fun e w' ⟨he, hb⟩ => ⟨he, h.next hb⟩
theorem KP.base {w W : World} (h : KP w W) : KP W W := ⟨Below.refl _ _, h.tabs, h.he⟩
theorem KP.trans {w V W : World} (h : KP w V) (h' : KP V W) : KP w W := ⟨h.bel.trans (h'.bel.mono h.bel.size), h'.tabs, h'.he⟩
theorem KP.cell {V W : World} (h : KP V W) {g j : Nat} {v : Value} (hc : V.cell? ⟨g, j, none⟩ = some v) : W.cell? ⟨g, j, none⟩ = some v :=
  (h.bel.cell (p := ⟨g, j, none⟩) (cell_blk hc)).trans hc
theorem four_alloc (W : World) (o1 o2 o3 o4 : Obj) : ((((W.alloc o1).alloc o2).alloc o3).alloc o4).heap[W.heap.size]? = some o1 ∧ ((((W.alloc o1).alloc o2).alloc o3).alloc o4).heap[W.heap.size + 1]? = some o2 ∧ ((((W.alloc o1).alloc o2).alloc o3).alloc o4).heap[W.heap.size + 1 + 1]? = some o3 ∧ ((((W.alloc o1).alloc o2).alloc o3).alloc o4).heap[W.heap.size + 1 + 1 + 1]? = some o4 := by
  have z : ∀ (W : World) (o : Obj), (W.alloc o).heap.size = W.heap.size + 1 := fun W o => Array.size_push _
  refine ⟨?_, ?_, ?_, ?_⟩
  · rw [heap_alloc_old _ _ (by rw [z, z, z]; omega), heap_alloc_old _ _ (by rw [z, z]; omega), heap_alloc_old _ _ (by rw [z]; omega), heap_alloc_new]
  · rw [heap_alloc_old _ _ (by rw [z, z, z]; omega), heap_alloc_old _ _ (by rw [z, z]; omega)]
    have := heap_alloc_new (W.alloc o1) o2
    rwa [z] at this
  · rw [heap_alloc_old _ _ (by rw [z, z, z]; omega)]
    have := heap_alloc_new ((W.alloc o1).alloc o2) o3
    rwa [z, z] at this
  · have := heap_alloc_new (((W.alloc o1).alloc o2).alloc o3) o4
    rwa [z, z, z] at this
/-- the units, by counting -/
def sfxF : Nat → List UInt8 → List (List UInt8)
  | 0, _ => []
  | n + 1, l => match l with
    | [] => []
    | a :: r => (a :: r) :: sfxF n ((a :: r).drop (dw (a :: r)))
theorem sfx_F : ∀ n (l : List UInt8), l.length ≤ n → sfx l = sfxF n l
  | 0, l, h => by
    obtain rfl : l = [] := List.eq_nil_of_length_eq_zero (by omega)
    rw [sfx_nil]; rfl
  | n + 1, [], h => by rw [sfx_nil]; rfl
  | n + 1, a :: r, h => by
    have hne : a :: r ≠ [] := by simp
    have := dw_pos hne
    rw [sfx_cons hne, sfx_F n _ (by rw [List.length_drop]; omega)]
    rfl
end Go.Proofs.YtbkimhbpcmbflaaDoor.C
set_option linter.unusedVariables false
set_option linter.unusedSimpArgs false
namespace Go.Proofs.YtbkimhbpcmbflaaDoor.C
open Go Go.RowKit Go.Shelf Go.Proofs.YtbkimhbpcmbflaaDoor.M Go.Proofs.YtbkimhbpcmbflaaDoor.E Go.Proofs.YtbkimhbpcmbflaaDoor.PAll Go.Proofs.YtbkimhbpcmbflaaDoorW.PrintWords
attribute [local go_sem] Oper.semAt_some
theorem p1 : pts (bl ⟨#[97, 195, 169, 255, 226, 130, 226, 130, 172, 237, 160, 128]⟩) = [97, 233, 1114367, 1114338, 1114242, 8364, 1114349, 1114272, 1114240] := by
  show pts [97, 195, 169, 255, 226, 130, 226, 130, 172, 237, 160, 128] = _
  unfold pts
  rw [sfx_F 12 _ (by decide)]
  decide +kernel
theorem p2 : pts (bl ⟨#[239, 191, 189, 255]⟩) = [65533, 1114367] := by
  show pts [239, 191, 189, 255] = _
  unfold pts
  rw [sfx_F 12 _ (by decide)]
  decide +kernel
theorem p3 : textP [97, 1114367, 128104] = [97, 255, 240, 159, 145, 168] := by decide +kernel
theorem p4 : textP [1114307, 1114281] = [195, 169] := by decide +kernel
abbrev mlist : List UInt8 := [97, 240, 159, 145, 168, 10, 195, 169]
theorem p5 : sfx mlist = sfxF 12 mlist := sfx_F 12 _ (by decide)
theorem p6 : pts mlist = [97, 128104, 10, 233] := by
  unfold pts
  rw [p5]
  decide +kernel
theorem q1 : IsU mlist (1) 1 := ⟨by rw [p5]; decide +kernel, by rw [p5]; decide +kernel, by rw [p5]; decide +kernel⟩
theorem q3 : IsU mlist (3) 1 := ⟨by rw [p5]; decide +kernel, by rw [p5]; decide +kernel, by rw [p5]; decide +kernel⟩
theorem q5 : IsU mlist (5) 2 := ⟨by rw [p5]; decide +kernel, by rw [p5]; decide +kernel, by rw [p5]; decide +kernel⟩
theorem q8 : IsU mlist (8) 4 := ⟨by rw [p5]; decide +kernel, by rw [p5]; decide +kernel, by rw [p5]; decide +kernel⟩
theorem qm1 : IsU mlist (-1) 0 := ⟨by rw [p5]; decide +kernel, by rw [p5]; decide +kernel, by rw [p5]; decide +kernel⟩
theorem q7 : IsU mlist (7) 3 := ⟨by rw [p5]; decide +kernel, by rw [p5]; decide +kernel, by rw [p5]; decide +kernel⟩
set_option maxRecDepth 100000 in
set_option maxHeartbeats 8000000 in
theorem shown_any (w : World) (k0 : KP w w) :
    Calls Tryd.prog 66 #[] w fun e w' => e = .returned (.bool true) ∧ KP w w' := by
  go_enter Tryd.func66, Tryd.ntmps66
  go_wp2_with fail
  refine (kp_of k0 ⟨#[97, 195, 169, 255, 226, 130, 226, 130, 172, 237, 160, 128]⟩ [97, 233, 1114367, 1114338, 1114242, 8364, 1114349, 1114272, 1114240] 9 (by decide) p1 rfl).mono ?_
  rintro e w1 ⟨A1, c1, rfl, hc1, r1, b1, k1⟩
  clear k0
  go_wp2_with fail
  have bw := bel_alloc w1 (.cells #[.int .i32 97, .int .i32 233, .int .i32 1114367, .int .i32 1114338, .int .i32 1114242, .int .i32 8364, .int .i32 1114349, .int .i32 1114272, .int .i32 1114240] 21)
  have rw1 := rd_alloc w1 .i32 [97, 233, 1114367, 1114338, 1114242, 8364, 1114349, 1114272, 1114240] #[.int .i32 97, .int .i32 233, .int .i32 1114367, .int .i32 1114338, .int .i32 1114242, .int .i32 8364, .int .i32 1114349, .int .i32 1114272, .int .i32 1114240] 21 rfl
  have k2 := k1.next bw
  replace r1 := (r1.below bw (Nat.le_refl _)).more bw.size
  generalize w1.alloc (.cells #[.int .i32 97, .int .i32 233, .int .i32 1114367, .int .i32 1114338, .int .i32 1114242, .int .i32 8364, .int .i32 1114349, .int .i32 1114272, .int .i32 1114240] 21) = w2 at bw rw1 k2 r1 ⊢
  clear k1 b1 bw
  refine (kp_of k2 ⟨#[239, 191, 189, 255]⟩ [65533, 1114367] 2 (by decide) p2 rfl).mono ?_
  rintro e w3 ⟨A2, c2, rfl, hc2, r2, b, k3⟩
  clear k2
  replace r1 := (r1.below b (Nat.le_refl _)).more b.size
  replace rw1 := (rw1.below b (Nat.le_refl _)).more b.size
  clear b
  go_wp2_with fail
  refine (kp_text k3 [97, 1114367, 128104] _ _ 3 _ rfl rfl (by decide) (by decide) (by decide) (congrArg (fun l : List UInt8 => (⟨l.toArray⟩ : ByteArray)) p3)).mono ?_
  clear k3
  rintro e w4 ⟨rfl, b, k4⟩
  replace r1 := (r1.below b (Nat.le_refl _)).more b.size
  replace rw1 := (rw1.below b (Nat.le_refl _)).more b.size
  replace r2 := (r2.below b (Nat.le_refl _)).more b.size
  clear b
  go_wp2_with fail
  refine (kp_text k4 [1114307, 1114281] _ _ 2 _ rfl rfl (by decide) (by decide) (by decide) (congrArg (fun l : List UInt8 => (⟨l.toArray⟩ : ByteArray)) p4)).mono ?_
  clear k4
  rintro e w5 ⟨rfl, b, k5⟩
  replace r1 := (r1.below b (Nat.le_refl _)).more b.size
  replace rw1 := (rw1.below b (Nat.le_refl _)).more b.size
  replace r2 := (r2.below b (Nat.le_refl _)).more b.size
  clear b
  go_wp2_with fail
  refine (kp_bad k5 1114233 _ _ rfl (by decide) (by decide)).mono ?_
  clear k5
  rintro e w6 ⟨rfl, b, k6⟩
  replace r1 := (r1.below b (Nat.le_refl _)).more b.size
  replace rw1 := (rw1.below b (Nat.le_refl _)).more b.size
  replace r2 := (r2.below b (Nat.le_refl _)).more b.size
  clear b
  go_wp2_with fail
  refine (kp_bad k6 (-1) _ _ rfl (by decide) (by decide)).mono ?_
  clear k6
  rintro e w7 ⟨rfl, b, k7⟩
  replace r1 := (r1.below b (Nat.le_refl _)).more b.size
  replace rw1 := (rw1.below b (Nat.le_refl _)).more b.size
  replace r2 := (r2.below b (Nat.le_refl _)).more b.size
  clear b
  go_wp2_with fail
  refine (kp_same k7 _ 9 rfl (by decide) _ _ _ 9 r1 rw1 hc1 (by decide)).mono ?_
  clear k7
  rintro e w8 ⟨rfl, b, k8⟩
  replace r2 := (r2.below b (Nat.le_refl _)).more b.size
  clear b r1 rw1 hc1
  go_wp2_with fail
  have bw := bel_alloc w8 (.cells #[.int .i32 65533, .int .i32 1114367] 21)
  have rw2 := rd_alloc w8 .i32 [65533, 1114367] #[.int .i32 65533, .int .i32 1114367] 21 rfl
  have k9 := k8.next bw
  replace r2 := (r2.below bw (Nat.le_refl _)).more bw.size
  generalize w8.alloc (.cells #[.int .i32 65533, .int .i32 1114367] 21) = w9 at bw rw2 k9 r2 ⊢
  clear k8 bw
  refine (kp_same k9 _ 2 rfl (by decide) _ _ _ 2 r2 rw2 hc2 (by decide)).mono ?_
  clear k9
  rintro e w10 ⟨rfl, b, k10⟩
  clear b r2 rw2 hc2
  go_wp2_with fail
  refine (kp_at k10).mono ?_
  clear k10
  rintro e w11 ⟨rfl, k11⟩
  go_wp2_with fail
  refine (kp_at k11).mono ?_
  clear k11
  rintro e w12 ⟨rfl, k12⟩
  go_wp2_with fail
  refine (kp_measure k12 ⟨#[97, 240, 159, 145, 168, 10, 195, 169]⟩ (sfx mlist) (by decide) rfl).mono ?_
  rintro e w13 ⟨p, rfl, pl, k13⟩
  clear k12
  have km : KM w p (sfx mlist) w13 := ⟨k13, pl⟩
  clear k13 pl
  go_wp2_with fail
  refine (km_units km 4 (by rw [p5]; decide +kernel) (by decide)).mono ?_
  clear km
  rintro e w14 ⟨rfl, km⟩
  go_wp2_with fail
  refine (km_byte km (1) 1 (by rw [p5]; decide +kernel) (by rw [p5]; decide +kernel)).mono ?_
  clear km
  rintro e w15 ⟨rfl, km⟩
  go_wp2_with fail
  refine (km_byte km (2) 5 (by rw [p5]; decide +kernel) (by rw [p5]; decide +kernel)).mono ?_
  clear km
  rintro e w15 ⟨rfl, km⟩
  go_wp2_with fail
  refine (km_byte km (4) 8 (by rw [p5]; decide +kernel) (by rw [p5]; decide +kernel)).mono ?_
  clear km
  rintro e w15 ⟨rfl, km⟩
  go_wp2_with fail
  refine (km_byte km (9) 8 (by rw [p5]; decide +kernel) (by rw [p5]; decide +kernel)).mono ?_
  clear km
  rintro e w15 ⟨rfl, km⟩
  go_wp2_with fail
  refine (km_byte km (-3) 0 (by rw [p5]; decide +kernel) (by rw [p5]; decide +kernel)).mono ?_
  clear km
  rintro e w15 ⟨rfl, km⟩
  go_wp2_with fail
  have hf := four_alloc w15 (.cells #[.int .i64 1, .int .i64 3, .int .i64 5, .int .i64 8, .int .i64 (-1)] 3) (.cells #[.int .i64 1, .int .i64 1, .int .i64 2, .int .i64 4, .int .i64 0] 3) (.cells #[.bool true, .bool false, .bool true, .bool true, .bool true] 4) (.cells #[.int .i64 1, .int .i64 1, .int .i64 3, .int .i64 5, .int .i64 0] 3)
  have kv : KM w p (sfx mlist) ((((w15.alloc (.cells #[.int .i64 1, .int .i64 3, .int .i64 5, .int .i64 8, .int .i64 (-1)] 3)).alloc (.cells #[.int .i64 1, .int .i64 1, .int .i64 2, .int .i64 4, .int .i64 0] 3)).alloc (.cells #[.bool true, .bool false, .bool true, .bool true, .bool true] 4)).alloc (.cells #[.int .i64 1, .int .i64 1, .int .i64 3, .int .i64 5, .int .i64 0] 3)) := (((km.next (bel_alloc _ _)).next (bel_alloc _ _)).next (bel_alloc _ _)).next (bel_alloc _ _)
  generalize (((w15.alloc (.cells #[.int .i64 1, .int .i64 3, .int .i64 5, .int .i64 8, .int .i64 (-1)] 3)).alloc (.cells #[.int .i64 1, .int .i64 1, .int .i64 2, .int .i64 4, .int .i64 0] 3)).alloc (.cells #[.bool true, .bool false, .bool true, .bool true, .bool true] 4)).alloc (.cells #[.int .i64 1, .int .i64 1, .int .i64 3, .int .i64 5, .int .i64 0] 3) = V at hf kv ⊢
  clear km
  generalize w15.heap.size = N at hf ⊢
  obtain ⟨f1, f2, f3, f4⟩ := hf
  have hc : ∀ i, i < 5 → ∃ (a : Int) (u : Nat) (b : Bool) (v : Int), V.cell? ⟨N, i, none⟩ = some (.int .i64 a) ∧ V.cell? ⟨N + 1, i, none⟩ = some (.int .i64 u) ∧ V.cell? ⟨N + 1 + 1, i, none⟩ = some (.bool b) ∧ V.cell? ⟨N + 1 + 1 + 1, i, none⟩ = some (.int .i64 v) ∧ IsU mlist a u ∧ ((off (sfx mlist) u : Int) == (clampA mlist.length a : Int)) = b ∧ wsum ((pts mlist).take u) = v := fun i hi => by
    have : i = 0 ∨ i = 1 ∨ i = 2 ∨ i = 3 ∨ i = 4 := by omega
    rcases this with rfl | rfl | rfl | rfl | rfl
    · exact ⟨1, 1, true, 1, cell_of_row _ _ _ _ _ _ f1, cell_of_row _ _ _ _ _ _ f2, cell_of_row _ _ _ _ _ _ f3, cell_of_row _ _ _ _ _ _ f4, q1, by rw [p5]; decide +kernel, by rw [p6]; decide +kernel⟩
    · exact ⟨3, 1, false, 1, cell_of_row _ _ _ _ _ _ f1, cell_of_row _ _ _ _ _ _ f2, cell_of_row _ _ _ _ _ _ f3, cell_of_row _ _ _ _ _ _ f4, q3, by rw [p5]; decide +kernel, by rw [p6]; decide +kernel⟩
    · exact ⟨5, 2, true, 3, cell_of_row _ _ _ _ _ _ f1, cell_of_row _ _ _ _ _ _ f2, cell_of_row _ _ _ _ _ _ f3, cell_of_row _ _ _ _ _ _ f4, q5, by rw [p5]; decide +kernel, by rw [p6]; decide +kernel⟩
    · exact ⟨8, 4, true, 5, cell_of_row _ _ _ _ _ _ f1, cell_of_row _ _ _ _ _ _ f2, cell_of_row _ _ _ _ _ _ f3, cell_of_row _ _ _ _ _ _ f4, q8, by rw [p5]; decide +kernel, by rw [p6]; decide +kernel⟩
    · exact ⟨-1, 0, true, 0, cell_of_row _ _ _ _ _ _ f1, cell_of_row _ _ _ _ _ _ f2, cell_of_row _ _ _ _ _ _ f3, cell_of_row _ _ _ _ _ _ f4, qm1, by rw [p5]; decide +kernel, by rw [p6]; decide +kernel⟩
  have Hc := Lib.hid hc
  have K1 := Lib.hid kv
  have K2 : KM V p (sfx mlist) V := ⟨kv.kp.base, kv.pl⟩
  clear hc kv f1 f2 f3 f4
  go_loopw [17] (fun i wr => ∃ k : Nat, k ≤ 5 ∧ i = .int .i64 k ∧ KM V p (sfx mlist) wr) (fun i _ => 5 - (intOf i).toNat)
  case atStart => exact ⟨0, by omega, rfl, K2⟩
  case round =>
    obtain ⟨k, hk, rfl, km⟩ := hrel
    clear K2
    by_cases hlt : k < 5
    · have hltI : (k : Int) < 5 := by omega
      obtain ⟨a, u, b, v, h1, h2, h3, h4, hi, hb, hv⟩ := Hc.out k hlt
      have g1 := km.kp.cell h1
      go_wp2_with fail
      refine (km_unit km a u b (by decide) hi hb).mono ?_
      rintro e w16 ⟨rfl, km2⟩
      clear km
      have g1 := km2.kp.cell h1
      have g2 := km2.kp.cell h2
      have g3 := km2.kp.cell h3
      have g4 := km2.kp.cell h4
      have hbb : (b == b) = true := by simp
      have hvv : (v == v) = true := by simp
      have huu : ((u : Int) == (u : Int)) = true := by simp
      have kd : ∀ W, KM V p (sfx mlist) W → W.cell? ⟨N, k, none⟩ = some (.int .i64 a) ∧ W.cell? ⟨N + 1, k, none⟩ = some (.int .i64 u) ∧ W.cell? ⟨N + 1 + 1, k, none⟩ = some (.bool b) ∧ W.cell? ⟨N + 1 + 1 + 1, k, none⟩ = some (.int .i64 v) ∧ KM V p (sfx mlist) W := fun W h => ⟨h.kp.cell h1, h.kp.cell h2, h.kp.cell h3, h.kp.cell h4, h⟩
      have k0 : KM V p (sfx mlist) w16.drew := km2.next (Below.refl _ _).drew
      have hm : mlist.length ≤ 1000 := by decide
      have cWd := fun W (h : KM V p (sfx mlist) W) => km_wide h a u v hm hi hv
      clear g1 g2 g3 g4 hb hv hi h1 h2 h3 h4
      go_wp2_with fail
      refine Code.wp_mono (Q := NoPanic _) NoPanic.imp ?_
      go_region_held3 (fun W => W.cell? ⟨N, k, none⟩ = some (.int .i64 a) ∧ W.cell? ⟨N + 1, k, none⟩ = some (.int .i64 u) ∧ W.cell? ⟨N + 1 + 1, k, none⟩ = some (.bool b) ∧ W.cell? ⟨N + 1 + 1 + 1, k, none⟩ = some (.int .i64 v) ∧ KM V p (sfx mlist) W) (first | exact kd _ k0 | exact kd _ (by assumption))
        (first | (go_at_call 62; refine (cWd _ (by first | assumption | exact k0)).mono ?_; rintro e w17 ⟨rfl, km3⟩))
      refine NoPanic.normal ?_
      go_wp2_with fail
      go_round
      case rel => exact ⟨k + 1, by omega, by go_num, km3⟩
      case measure => simp [intOf]; omega
    · have hge : (5 : Int) ≤ k := by omega
      clear Hc
      go_wp2_with fail
      refine (km_line km 5 2 1 3 (by decide) q5 (by rw [p6]; decide +kernel)).mono ?_
      clear km
      rintro e w18 ⟨rfl, km⟩
      go_wp2_with fail
      refine (km_line km 7 3 2 1 (by decide) q7 (by rw [p6]; decide +kernel)).mono ?_
      clear km
      rintro e w19 ⟨rfl, km⟩
      go_wp2_with fail
      refine (km_line km 8 4 2 2 (by decide) q8 (by rw [p6]; decide +kernel)).mono ?_
      clear km
      rintro e w20 ⟨rfl, km⟩
      go_wp2_with fail
      go_ret
      exact ⟨rfl, K1.out.kp.trans km.kp⟩
end Go.Proofs.YtbkimhbpcmbflaaDoor.C
set_option linter.unusedVariables false
set_option linter.unusedSimpArgs false
namespace Go.Proofs.YtbkimhbpcmbflaaDoor.C
open Go Go.RowKit Go.Shelf Go.Proofs.YtbkimhbpcmbflaaDoor.M Go.Proofs.YtbkimhbpcmbflaaDoor.E Go.Proofs.YtbkimhbpcmbflaaDoor.PAll Go.Proofs.YtbkimhbpcmbflaaDoorW.PrintWords
attribute [local go_sem] Oper.semAt_some
theorem kl_of {w W : World} (h : KP w W) (s t : ByteArray) (hs : s.size ≤ 100) (ht : t.size ≤ 100) : Calls Tryd.prog 3 #[.string s, .string t] W fun e w' => e = .returned (.bool true) ∧ KP w w' :=
  (law_PointsOf W h.he s (by omega) (by omega) t (by omega) (by omega)).mono fun e w' ⟨he, hb⟩ => ⟨he, h.next hb⟩
theorem kl_next {w W : World} (h : KP w W) (s : ByteArray) (hs : s.size ≤ 100) : Calls Tryd.prog 12 #[.string s, .int .i64 0] W fun e w' => e = .returned (.bool true) ∧ KP w w' :=
  (law_PointsNext W h.tabs h.he s (by omega) 0 (by decide)).mono fun e w' ⟨he, hb⟩ => ⟨he, h.next hb⟩
theorem kl_text {w W : World} (h : KP w W) (xs : List Int) (C : Array Value) (T : TypeId) (n : Nat) (hC : C = (xs.map (Value.int .i32)).toArray) (hn : xs.length = n) (hm : n ≤ 1000) (h0 : 0 < n) (hx : ∀ x ∈ xs, (Lit.int .i32 x).wf = true) :
    Calls Tryd.prog 4 #[.slice (some ⟨W.heap.size, 0, none⟩) n n] (W.alloc (.cells C T)) fun e w' => e = .returned (.bool true) ∧ KP w w' := by
  have k := h.alloc (.cells C T)
  exact (law_PointsText _ k.he (some ⟨W.heap.size, 0, none⟩) n n xs (isrow_rd (rd_alloc W .i32 xs C T hC) hn hm h0 hx) (by omega)).mono fun e w' ⟨he, hb⟩ => ⟨he, k.next hb⟩
/-- a list as it stands in cells -/
def Good (C : Array Value) (n : Nat) : Prop := ∃ xs : List Int, C = (xs.map (Value.int .i32)).toArray ∧ xs.length = n ∧ n ≤ 1000 ∧ 0 < n ∧ ∀ x ∈ xs, (Lit.int .i32 x).wf = true
theorem rd_heap {W V : World} {C : Array Value} {T : TypeId} {xs : List Int} {k : IntKind} (hV : V.heap = (W.alloc (.cells C T)).heap) (hC : C = (xs.map (Value.int k)).toArray) : Rd V V.heap.size k (some ⟨W.heap.size, 0, none⟩) xs := by
  rcases rd_alloc W k xs C T hC with h | ⟨x, h1, h2, h3⟩
  · exact .inl h
  · exact .inr ⟨x, h1, by rw [hV]; exact h2, fun j u hj => by
      have := h3 j u hj
      unfold World.cell? at this ⊢
      rw [hV]
      exact this⟩
theorem kg_text {w W V : World} (h : KP w V) {C : Array Value} {T : TypeId} {n : Nat} (hV : V.heap = (W.alloc (.cells C T)).heap) (g : Good C n) : Calls Tryd.prog 4 #[.slice (some ⟨W.heap.size, 0, none⟩) n n] V fun e w' => e = .returned (.bool true) ∧ KP w w' := by
  obtain ⟨xs, h1, h2, h3, h4, h5⟩ := g
  exact (law_PointsText _ h.he (some ⟨W.heap.size, 0, none⟩) n n xs (isrow_rd (rd_heap hV h1) h2 h3 h4 h5) (by omega)).mono fun e w' ⟨he, hb⟩ => ⟨he, h.next hb⟩
theorem kg_row {w W V : World} (h : KP w V) {C : Array Value} {T : TypeId} {n : Nat} (hV : V.heap = (W.alloc (.cells C T)).heap) (g : Good C n) : Calls Tryd.prog 6 #[.slice (some ⟨W.heap.size, 0, none⟩) n n] V fun e w' => e = .returned (.bool true) ∧ KP w w' := by
  obtain ⟨xs, h1, h2, h3, h4, h5⟩ := g
  exact (law_PointsRow _ h.he (some ⟨W.heap.size, 0, none⟩) n n xs (isrow_rd (rd_heap hV h1) h2 h3 h4 h5) (by omega)).mono fun e w' ⟨he, hb⟩ => ⟨he, h.next hb⟩
theorem kg_places {w V W : World} (h0 : KP w V) (h : KP V W) (s t : ByteArray) (hs : s.size ≤ 100) (ht : t.size ≤ 100) (g n : Nat) (xs : List Int) (hr : Rd V V.heap.size .i64 (some ⟨g, 0, none⟩) xs) (hl : xs.length = n) (h0n : 0 < n) (hn : n ≤ 1000) (hw : ∀ x ∈ xs, (Lit.int .i64 x).wf = true) : Calls Tryd.prog 18 #[.string s, .string t, .slice (some ⟨g, 0, none⟩) n n] W fun e w' => e = .returned (.bool true) ∧ KP V w' := by
  have r := (hr.below h.bel (Nat.le_refl _)).more h.bel.size
  exact (law_PointsPlaces W h.tabs h.he s (by omega) (by omega) t (by omega) (by omega) _ n n xs (isrow_rd r hl hn h0n hw) (by omega)).mono fun e w' ⟨he, hb⟩ => ⟨he, h.next hb⟩
theorem wf_of32 {x : Int} (h : -2147483648 ≤ x ∧ x ≤ 2147483647) : (Lit.int .i32 x).wf = true := by
  simp [Lit.wf]
  exact ⟨h.1, h.2⟩
def bnds : List Int := [-2147483648, -1, 0, 127, 128, 2047, 2048, 55295, 55296, 56319, 56320, 57343, 57344, 65533, 65535, 65536, 1114111, 1114112, 1114239, 1114240, 1114367, 1114368, 2147483647, 65533]
set_option maxRecDepth 100000 in
set_option maxHeartbeats 8000000 in
theorem bounds_any (W : World) : Calls Tryd.prog 106 #[] W fun e w' => e = .returned (.slice (some ⟨W.heap.size, 0, none⟩) 24 24) ∧ Rd w' w'.heap.size .i32 (some ⟨W.heap.size, 0, none⟩) bnds ∧ Below W.heap.size W w' := by
  go_enter Tryd.func106, Tryd.ntmps106
  go_wp2_with fail
  go_ret
  exact ⟨rfl, rd_alloc W .i32 bnds _ _ rfl, bel_alloc _ _⟩
theorem u8_wrap (c : Nat) (hc : c < 256) : IntKind.u8.wrap (c : Int) = c := by
  unfold IntKind.wrap
  simp [IntKind.bits, IntKind.signed]
  omega
theorem five_conv (c x y : Nat) (hc : c < 256) (hx : x < 256) (hy : y < 256) (W V : World) (hV : V.heap = (W.alloc (.cells #[.int .u8 (IntKind.u8.wrap (c : Int)), .int .u8 x, .int .u8 y, .int .u8 128, .int .u8 97] 5)).heap) : (convert 72 9 (.slice (some ⟨W.heap.size, 0, none⟩) 5 5)).run Tryd.prog V = .ok (.string ⟨#[UInt8.ofNat c, UInt8.ofNat x, UInt8.ofNat y, 128, 97]⟩) V :=
  run_convert_bytes_back (P := Tryd.prog) _ _ _ 5 ⟨W.heap.size, 0, none⟩ 5 [UInt8.ofNat c, UInt8.ofNat x, UInt8.ofNat y, 128, 97] Tryd.underlying72 Tryd.underlying5 Tryd.underlying9 (fun j hj => by
    have hj0 : j = 0 ∨ j = 1 ∨ j = 2 ∨ j = 3 ∨ j = 4 := by simp at hj; omega
    have ea : (⟨W.heap.size, 0, none⟩ : Addr).add j = ⟨W.heap.size, j, none⟩ := by
      simp [Addr.add]
      exact fun h => h.symm
    have z : ∀ n, n < 256 → (UInt8.ofNat n).toNat = n := fun n h => by simp; omega
    rw [ea, cell_of_row _ _ _ _ _ _ (show V.heap[W.heap.size]? = _ from by rw [hV]; exact heap_alloc_new W _), u8_wrap c hc]
    rcases hj0 with rfl | rfl | rfl | rfl | rfl
    · show some (Value.int .u8 (c : Int)) = some (Value.int .u8 (((UInt8.ofNat c).toNat : Nat) : Int))
      rw [z c hc]
    · show some (Value.int .u8 (x : Int)) = some (Value.int .u8 (((UInt8.ofNat x).toNat : Nat) : Int))
      rw [z x hx]
    · show some (Value.int .u8 (y : Int)) = some (Value.int .u8 (((UInt8.ofNat y).toNat : Nat) : Int))
      rw [z y hy]
    · rfl
    · rfl)
set_option maxRecDepth 100000 in
set_option maxHeartbeats 8000000 in
theorem edged_any (w : World) (k0 : KP w w) :
    Calls Tryd.prog 67 #[] w fun e w' => e = .returned (.bool true) ∧ KP w w' := by
  have cB := fun W => bounds_any W
  go_enter Tryd.func67, Tryd.ntmps67
  go_wp2_with fail
  have hf := heap_alloc_new w (.cells #[.int .u8 0, .int .u8 127, .int .u8 128, .int .u8 143, .int .u8 144, .int .u8 159, .int .u8 160, .int .u8 191, .int .u8 192, .int .u8 255] 5)
  have kv := k0.next (bel_alloc w (.cells #[.int .u8 0, .int .u8 127, .int .u8 128, .int .u8 143, .int .u8 144, .int .u8 159, .int .u8 160, .int .u8 191, .int .u8 192, .int .u8 255] 5))
  generalize w.alloc (.cells #[.int .u8 0, .int .u8 127, .int .u8 128, .int .u8 143, .int .u8 144, .int .u8 159, .int .u8 160, .int .u8 191, .int .u8 192, .int .u8 255] 5) = V at hf kv ⊢
  clear k0
  have hc : ∀ i, i < 10 → ∃ x : Nat, x < 256 ∧ V.cell? ⟨w.heap.size, i, none⟩ = some (.int .u8 x) := fun i hi => by
    have : i = 0 ∨ i = 1 ∨ i = 2 ∨ i = 3 ∨ i = 4 ∨ i = 5 ∨ i = 6 ∨ i = 7 ∨ i = 8 ∨ i = 9 := by omega
    rcases this with rfl | rfl | rfl | rfl | rfl | rfl | rfl | rfl | rfl | rfl
    · exact ⟨0, by decide, cell_of_row _ _ _ _ _ _ hf⟩
    · exact ⟨127, by decide, cell_of_row _ _ _ _ _ _ hf⟩
    · exact ⟨128, by decide, cell_of_row _ _ _ _ _ _ hf⟩
    · exact ⟨143, by decide, cell_of_row _ _ _ _ _ _ hf⟩
    · exact ⟨144, by decide, cell_of_row _ _ _ _ _ _ hf⟩
    · exact ⟨159, by decide, cell_of_row _ _ _ _ _ _ hf⟩
    · exact ⟨160, by decide, cell_of_row _ _ _ _ _ _ hf⟩
    · exact ⟨191, by decide, cell_of_row _ _ _ _ _ _ hf⟩
    · exact ⟨192, by decide, cell_of_row _ _ _ _ _ _ hf⟩
    · exact ⟨255, by decide, cell_of_row _ _ _ _ _ _ hf⟩
  have Hc := Lib.hid hc
  have K1 := Lib.hid kv
  have k2 := kv.base
  clear hc hf kv
  go_loopw [2] (fun i wr => ∃ c : Nat, c ≤ 256 ∧ i = .int .i64 c ∧ KP V wr) (fun i _ => 256 - (intOf i).toNat)
  case atStart => exact ⟨0, by omega, rfl, k2⟩
  case round =>
    obtain ⟨c, hcc, rfl, kc⟩ := hrel
    clear k2
    by_cases hcl : c < 256
    · have hclI : (c : Int) < 256 := by omega
      go_wp2_with fail
      go_loopw [3] (fun i wr => ∃ j : Nat, j ≤ 10 ∧ i = .int .i64 j ∧ KP V wr) (fun i _ => 10 - (intOf i).toNat)
      case atStart => exact ⟨0, by omega, rfl, kc⟩
      case round =>
        obtain ⟨j, hj, rfl, kj⟩ := hrel
        clear kc
        by_cases hjl : j < 10
        · have hjlI : (j : Int) < 10 := by omega
          go_wp2_with fail
          go_loopw [4] (fun i wr => ∃ k : Nat, k ≤ 10 ∧ i = .int .i64 k ∧ KP V wr) (fun i _ => 10 - (intOf i).toNat)
          case atStart => exact ⟨0, by omega, rfl, kj⟩
          case round =>
            obtain ⟨k, hk, rfl, kk⟩ := hrel
            clear kj
            by_cases hkl : k < 10
            · have hklI : (k : Int) < 10 := by omega
              obtain ⟨x, hx, hxc⟩ := Hc.out j hjl
              obtain ⟨y, hy, hyc⟩ := Hc.out k hkl
              have cv := fun W => five_conv c x y hcl hx hy W (W.alloc (.cells #[.int .u8 (IntKind.u8.wrap (c : Int)), .int .u8 x, .int .u8 y, .int .u8 128, .int .u8 97] 5)).drew rfl
              have g1 := kk.cell hxc
              have g2 := kk.cell hyc
              go_wp2_with fail
              have k3 : KP V (wr.alloc (.cells #[.int .u8 (IntKind.u8.wrap (c : Int)), .int .u8 x, .int .u8 y, .int .u8 128, .int .u8 97] 5)).drew := (kk.alloc _).next (Below.refl _ _).drew
              go_region_law fail
              all_goals
                clear cv g1 g2 kk hxc hyc
                generalize (wr.alloc (.cells #[.int .u8 (IntKind.u8.wrap (c : Int)), .int .u8 x, .int .u8 y, .int .u8 128, .int .u8 97] 5)).drew = W3 at k3 ⊢
                have hS : (⟨#[UInt8.ofNat c, UInt8.ofNat x, UInt8.ofNat y, 128, 97]⟩ : ByteArray).size = 5 := rfl
                generalize (⟨#[UInt8.ofNat c, UInt8.ofNat x, UInt8.ofNat y, 128, 97]⟩ : ByteArray) = S at hS ⊢
                have hE : ∀ a b, (S.extract a b).size ≤ 100 := fun a b => by rw [ByteArray.size_extract]; omega
                go_wp2_with fail
                refine (kl_of k3 S _ (by omega) (hE _ _)).mono ?_
                clear k3
                rintro e w4 ⟨rfl, k4⟩
                go_wp2_with fail
                refine (kl_next k4 S (by omega)).mono ?_
                clear k4
                rintro e w5 ⟨rfl, k5⟩
                go_wp2_with fail
                refine (kl_next k5 _ (hE _ _)).mono ?_
                clear k5
                rintro e w6 ⟨rfl, k6⟩
                go_wp2_with fail
                refine (kl_next k6 _ (hE _ _)).mono ?_
                clear k6
                rintro e w7 ⟨rfl, k7⟩
                go_wp2_with fail
                refine (kl_next k7 _ (hE _ _)).mono ?_
                clear k7
                rintro e w8 ⟨rfl, k8⟩
                go_wp2_with fail
                go_round
                case rel => exact ⟨k + 1, by omega, by go_num, k8⟩
                case measure => simp [intOf]; omega
            · have hge : (10 : Int) ≤ k := by omega
              go_wp2_with fail
              go_round
              case rel => exact ⟨j + 1, by omega, by go_num, kk⟩
              case measure => simp [intOf]; omega
        · have hge : (10 : Int) ≤ j := by omega
          go_wp2_with fail
          refine (kl_text kj [97, 1114112 + c, 98] _ _ 3 rfl rfl (by decide) (by decide) (by intro x hx; simp at hx; exact wf_of32 (by omega))).mono ?_
          clear kj
          rintro e w4 ⟨rfl, k4⟩
          go_wp2_with fail
          go_round
          case rel => exact ⟨c + 1, by omega, by go_num, k4⟩
          case measure => simp [intOf]; omega
    · have hge : (256 : Int) ≤ c := by omega
      clear Hc
      go_wp2_with fail
      refine (cB _).mono ?_
      clear cB
      rintro e w4 ⟨rfl, rl, b4⟩
      have k4 := kc.next b4
      clear kc b4
      generalize wr.heap.size = G at rl ⊢
      have hl : ∀ i, i < 24 → ∃ x : Int, w4.cell? ⟨G, i, none⟩ = some (.int .i32 x) ∧ -2147483648 ≤ x ∧ x ≤ 2147483647 := fun i hi => by
        rcases rl with h | ⟨a, ha, _, hcell⟩
        · exact absurd h (by decide)
        · cases ha
          have hin : bnds[i]? = some (bnds[i]'(by show i < 24; omega)) := List.getElem?_eq_getElem _
          have := hcell i _ hin
          have ea : (⟨G, 0, none⟩ : Addr).add i = ⟨G, i, none⟩ := by
            simp [Addr.add]
            exact fun h => h.symm
          rw [ea] at this
          exact ⟨_, this, (by decide : ∀ x ∈ bnds, -2147483648 ≤ x ∧ x ≤ 2147483647) _ (List.getElem_mem _)⟩
      have Hl := Lib.hid hl
      have K4 := Lib.hid k4
      have k5 := k4.base
      clear hl rl k4
      go_wp2_with fail
      go_loopw [7] (fun i wr => ∃ k : Nat, k ≤ 24 ∧ i = .int .i64 k ∧ KP w4 wr) (fun i _ => 24 - (intOf i).toNat)
      case atStart => exact ⟨0, by omega, rfl, k5⟩
      case round =>
        obtain ⟨k, hk, rfl, kk⟩ := hrel
        clear k5
        by_cases hkl : k < 24
        · have hklI : (k : Int) < 24 := by omega
          obtain ⟨x, hxc, hx⟩ := Hl.out k hkl
          have kd : ∀ W, KP w4 W → W.cell? ⟨G, k, none⟩ = some (.int .i32 x) ∧ KP w4 W := fun W h => ⟨h.cell hxc, h⟩
          have kr : KP w4 wr.drew := kk.next (Below.refl _ _).drew
          have w1 : Good #[.int .i32 x] 1 := ⟨[x], rfl, rfl, by decide, by decide, by intro y hy; simp at hy; exact wf_of32 (by omega)⟩
          have w2 : Good #[.int .i32 97, .int .i32 x, .int .i32 98, .int .i32 x] 4 := ⟨[97, x, 98, x], rfl, rfl, by decide, by decide, by intro y hy; simp at hy; exact wf_of32 (by omega)⟩
          have w3 : Good #[.int .i32 x, .int .i32 120] 2 := ⟨[x, 120], rfl, rfl, by decide, by decide, by intro y hy; simp at hy; exact wf_of32 (by omega)⟩
          clear hx hxc
          go_wp2_with fail
          refine Code.wp_mono (Q := NoPanic _) NoPanic.imp ?_
          go_region_held3 (fun W => W.cell? ⟨G, k, none⟩ = some (.int .i32 x) ∧ KP w4 W) (first | exact kd _ kr | exact kd _ (by assumption) | exact kd _ ((KP.alloc kk _).next (Below.refl _ _).drew) | exact kd _ (KP.alloc kr _) | exact kd _ (KP.alloc (by assumption) _))
            (first | (go_at_call 4; refine (kg_text (w := w4) (by first | assumption | exact (‹_ ∧ KP w4 _›).2) (by rfl) (by assumption)).mono ?_; rintro e w5 ⟨rfl, k5⟩) | (go_at_call 6; refine (kg_row (w := w4) (by first | assumption | exact (‹_ ∧ KP w4 _›).2) (by rfl) (by assumption)).mono ?_; rintro e w7 ⟨rfl, k7⟩))
          refine NoPanic.normal ?_
          go_wp2_with fail
          exact ⟨⟨k + 1, by omega, by go_num, k7⟩, by simp [intOf]; omega⟩
        · have hge : (24 : Int) ≤ k := by omega
          clear Hl
          go_wp2_with fail
          have rp := rd_alloc wr .i64 [-9223372036854775808, -1, 0, 1, 2, 3, 4, 5, 6, 9223372036854775807] #[.int .i64 (-9223372036854775808), .int .i64 (-1), .int .i64 0, .int .i64 1, .int .i64 2, .int .i64 3, .int .i64 4, .int .i64 5, .int .i64 6, .int .i64 9223372036854775807] 3 rfl
          have kq := kk.alloc (.cells #[.int .i64 (-9223372036854775808), .int .i64 (-1), .int .i64 0, .int .i64 1, .int .i64 2, .int .i64 3, .int .i64 4, .int .i64 5, .int .i64 6, .int .i64 9223372036854775807] 3)
          generalize wr.alloc (.cells #[.int .i64 (-9223372036854775808), .int .i64 (-1), .int .i64 0, .int .i64 1, .int .i64 2, .int .i64 3, .int .i64 4, .int .i64 5, .int .i64 6, .int .i64 9223372036854775807] 3) = U at rp kq ⊢
          have kb := kq.base
          have hw : ∀ x ∈ ([-9223372036854775808, -1, 0, 1, 2, 3, 4, 5, 6, 9223372036854775807] : List Int), (Lit.int .i64 x).wf = true := by decide
          clear kk
          refine (kg_places kq kb ⟨#[]⟩ ⟨#[10]⟩ (by decide) (by decide) _ 10 _ rp rfl (by decide) (by decide) hw).mono ?_
          clear kb
          rintro e w6 ⟨rfl, kb⟩
          go_wp2_with fail
          refine (kg_places kq kb ⟨#[10, 10]⟩ ⟨#[244, 143, 191, 191]⟩ (by decide) (by decide) _ 10 _ rp rfl (by decide) (by decide) hw).mono ?_
          clear kb
          rintro e w6 ⟨rfl, kb⟩
          go_wp2_with fail
          refine (kg_places kq kb ⟨#[13, 10, 255, 10]⟩ ⟨#[239, 191, 191, 240, 144, 128, 128]⟩ (by decide) (by decide) _ 10 _ rp rfl (by decide) (by decide) hw).mono ?_
          clear kb
          rintro e w6 ⟨rfl, kb⟩
          go_wp2_with fail
          go_ret
          exact ⟨rfl, (K1.out.trans K4.out).trans (kq.trans kb)⟩
end Go.Proofs.YtbkimhbpcmbflaaDoor.C
set_option linter.unusedVariables false
set_option linter.unusedSimpArgs false
namespace Go.Proofs.YtbkimhbpcmbflaaDoor.C
open Go Go.RowKit Go.Shelf Go.Proofs.YtbkimhbpcmbflaaDoor.M Go.Proofs.YtbkimhbpcmbflaaDoor.E Go.Proofs.YtbkimhbpcmbflaaDoor.PAll Go.Proofs.YtbkimhbpcmbflaaDoorW.PrintWords
attribute [local go_sem] Oper.semAt_some
set_option maxRecDepth 100000 in
set_option maxHeartbeats 4000000 in
theorem law_PointsKnown (w : World) (hT : Lib.Utf8Tabs 0 1 w) (hE : HE w) :
    Calls Tryd.prog 19 #[] w fun e w' => e = .returned (.bool true) ∧ Below w.heap.size w w' := by
  have cS := shown_any w ⟨Below.refl _ _, hT, hE⟩
  clear hT hE
  go_enter Tryd.func19, Tryd.ntmps19
  go_wp2_with fail
  refine cS.mono ?_
  rintro e w1 ⟨rfl, k1⟩
  have cE := edged_any w1 k1.base
  go_wp2_with fail
  refine cE.mono ?_
  rintro e w2 ⟨rfl, k2⟩
  go_wp2_with fail
  go_ret
  exact ⟨rfl, (k1.trans k2).bel⟩
end Go.Proofs.YtbkimhbpcmbflaaDoor.C
