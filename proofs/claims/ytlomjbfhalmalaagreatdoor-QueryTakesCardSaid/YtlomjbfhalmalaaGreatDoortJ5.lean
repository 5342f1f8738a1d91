/-
  Of this seat's texts what the claim wants (printed by a program): J5.
-/
import Derived.Test.YtlomjbfhalmalaaGreatDoortJ4
set_option linter.unusedVariables false
set_option linter.unusedSimpArgs false
namespace Go.Proofs.YtlomjbfhalmalaaGreatDoor.C
open Go Go.RowKit Go.Shelf Go.Proofs.YtlomjbfhalmalaaGreatDoor.M Go.Proofs.YtlomjbfhalmalaaGreatDoor.Z
def Far (b : Nat) : Prop := ¬ 1 = b ∧ ¬ 2 = b
theorem hT_keeps {w w' : World} {Z : Nat → Prop} (h : hT w) (hk : Keeps Z w w') (h1 : ¬ Z 1) (h2 : ¬ Z 2) : hT w' :=
  ⟨fun c hc => hk.cell (h.1 c hc) h1, fun i hi => ⟨hk.cell (h.2 i hi).1 h2, hk.cell (h.2 i hi).2 h2⟩⟩
def termF : List UInt8 → Nat → List UInt8 → List UInt8 → Nat → Nat → Bool → Nat × List UInt8 × List UInt8 × Nat × Nat × Bool
  | [], p, wd, pt, n, f, st => (p, wd, pt, n, f, st)
  | c :: r, p, wd, pt, n, f, st => if c = 42 ∨ c = 63 then termF r (p + 1) wd (pt ++ [c]) (n + 1) (if n = 0 then p else f) (decide (c = 42)) else
    if stopB c || dots (c :: r) then (p, wd, pt, n, f, st) else termF r (p + 1) (wd ++ [c]) (pt ++ [c]) n f false
theorem ba_append (a c : List UInt8) : ba a ++ ba c = ba (a ++ c) := by
  have := bl_ba (a ++ c)
  apply ByteArray.ext
  simp [ba]
theorem no_any {c : UInt8} (h1 : c ≠ 42) (h2 : c ≠ 63) (h3 : c ≠ 92) : Lib.containsAny [c] [42, 63, 92] = false := by
  have : ∀ c : UInt8, c ≠ 42 → c ≠ 63 → c ≠ 92 → Lib.containsAny [c] [42, 63, 92] = false := by
    intro c h1 h2 h3
    simp [Lib.containsAny, Lib.indexAny, h1, h2, h3]
  exact this c h1 h2 h3
def termV (wd pt : List UInt8) (n f : Nat) (st : Bool) : Array Value := #[.string (ba wd), .string (ba pt), .int .i64 (n : Nat), .int .i64 (f : Nat), .bool st]
structure TJ (w : World) (b : Nat) (s : ByteArray) (d : Nat) (wr : World) (p : Nat) (wd pt : List UInt8) (n f : Nat) (st : Bool) : Prop where
  ps : Ps wr b s p d
  hp : p ≤ s.size
  hn : n ≤ p + 1
  hl : wd.length ≤ p + 1 ∧ pt.length ≤ p + 1
  blk : wr.heap[w.heap.size + 1]? = some (.cells (termV wd pt n f st) 168 (0, 0))
  keeps : Keeps (fun k => k = b) w wr
  res : wr.heap[w.heap.size]? = some (.cells (termV [] [] 0 0 false) 168 (0, 0))
structure TI (w : World) (b : Nat) (s : ByteArray) (d : Nat) (R : Nat × List UInt8 × List UInt8 × Nat × Nat × Bool) (wr : World) (p : Nat) (wd pt : List UInt8) (n f : Nat) (st : Bool) : Prop extends TJ w b s d wr p wd pt n f st where
  bn : n ≤ p
  bw : wd.length ≤ p
  bp : pt.length ≤ p
  eq : termF ((bl s).drop p) p wd pt n f st = R
section
variable {w : World} {b : Nat} {s : ByteArray} {d : Nat} {wr : World} {p : Nat} {wd pt : List UInt8} {n f : Nat} {st : Bool}
theorem TJ.later {w' : World} (h : TJ w b s d wr p wd pt n f st) (hk : Keeps none' wr w') : TJ w b s d w' p wd pt n f st :=
  ⟨h.ps.keeps hk (fun h => h), h.hp, h.hn, h.hl, hk.obj h.blk (fun h => h), h.keeps.trans hk (fun _ _ h => h.elim), hk.obj h.res (fun h => h)⟩
theorem TJ.set (h : TJ w b s d wr p wd pt n f st) (hb : b < w.heap.size) (j : Nat) (u : Value) {wd' pt' : List UInt8} {n' f' : Nat} {st' : Bool} (hu : (termV wd pt n f st).setIfInBounds j u = termV wd' pt' n' f' st') (hn : n' ≤ p + 1) (hl : wd'.length ≤ p + 1 ∧ pt'.length ≤ p + 1) :
    TJ w b s d (wr.setCell ⟨w.heap.size + 1, j, none⟩ u) p wd' pt' n' f' st' := by
  have hk : Keeps (fun k => k = w.heap.size + 1) wr (wr.setCell ⟨w.heap.size + 1, j, none⟩ u) := Keeps.setCell _ _ _ rfl
  refine ⟨h.ps.keeps hk (by omega), h.hp, hn, hl, ?_, h.keeps.trans hk (fun i hi e => by omega), hk.obj h.res (by omega)⟩
  rw [← hu]; exact cell_modify h.blk j u
theorem TJ.go {w' : World} (h : TJ w b s d wr p wd pt n f st) (hb : b < w.heap.size) {q : Nat} (hk : Keeps (fun k => k = b) wr w') (hP : Ps w' b s q d) (hq : q ≤ s.size) (hpq : p ≤ q) : TJ w b s d w' q wd pt n f st :=
  ⟨hP, hq, by have := h.hn; omega, by have := h.hl; omega, hk.obj h.blk (by omega), h.keeps.trans hk (fun _ _ e => e), hk.obj h.res (by omega)⟩
theorem TJ.go1 (h : TJ w b s d wr p wd pt n f st) (hb : b < w.heap.size) (hq : p < s.size) : TJ w b s d (wr.setCell ⟨b, 1, none⟩ (.int .i64 ((p : Nat) + 1))) (p + 1) wd pt n f st := by
  have := h.ps.set1 (p + 1)
  rw [Int.natCast_add] at this
  exact h.go hb (Keeps.setCell (Z := fun k => k = b) _ _ _ rfl) this hq (by omega)
end
theorem Keeps.set5 (W : World) (B : Nat) (a0 a1 a2 a3 a4 : Value) : Keeps (fun k => k = B) W (((((W.setCell ⟨B, 0, none⟩ a0).setCell ⟨B, 1, none⟩ a1).setCell ⟨B, 2, none⟩ a2).setCell ⟨B, 3, none⟩ a3).setCell ⟨B, 4, none⟩ a4) :=
  ((((Keeps.setCell (Z := fun k => k = B) _ _ _ rfl).trans (Keeps.setCell (Z := fun k => k = B) _ _ _ rfl) (fun _ _ e => e)).trans (Keeps.setCell (Z := fun k => k = B) _ _ _ rfl) (fun _ _ e => e)).trans (Keeps.setCell (Z := fun k => k = B) _ _ _ rfl) (fun _ _ e => e)).trans (Keeps.setCell (Z := fun k => k = B) _ _ _ rfl) (fun _ _ e => e)
theorem TJ.fin {w : World} {b : Nat} {s : ByteArray} {d : Nat} {wr w' : World} {p : Nat} {wd pt : List UInt8} {n f : Nat} {st : Bool} (h : TJ w b s d wr p wd pt n f st) (hb : b < w.heap.size) (hk : Keeps (fun k => k = w.heap.size) wr w') : Ps w' b s p d ∧ p ≤ s.size ∧ Keeps (fun k => k = b) w w' :=
  ⟨h.ps.keeps hk (by omega), h.hp, h.keeps.trans hk (fun i hi e => by omega)⟩
theorem TI.later {w : World} {b : Nat} {s : ByteArray} {d : Nat} {R : Nat × List UInt8 × List UInt8 × Nat × Nat × Bool} {wr w' : World} {p : Nat} {wd pt : List UInt8} {n f : Nat} {st : Bool} (h : TI w b s d R wr p wd pt n f st) (hk : Keeps none' wr w') : TI w b s d R w' p wd pt n f st := ⟨h.toTJ.later hk, h.bn, h.bw, h.bp, h.eq⟩
theorem TI.cells {w : World} {b : Nat} {s : ByteArray} {d : Nat} {R : Nat × List UInt8 × List UInt8 × Nat × Nat × Bool} {wr : World} {p : Nat} {wd pt : List UInt8} {n f : Nat} {st : Bool} (h : TI w b s d R wr p wd pt n f st) :
    wr.cell? ⟨w.heap.size + 1, 0, none⟩ = some (.string (ba wd)) ∧ wr.cell? ⟨w.heap.size + 1, 1, none⟩ = some (.string (ba pt)) ∧ wr.cell? ⟨w.heap.size + 1, 2, none⟩ = some (.int .i64 (n : Nat)) ∧ wr.cell? ⟨w.heap.size + 1, 3, none⟩ = some (.int .i64 (f : Nat)) ∧ wr.cell? ⟨w.heap.size + 1, 4, none⟩ = some (.bool st) :=
  ⟨cell_of_row _ _ _ _ _ _ h.blk, cell_of_row _ _ _ _ _ _ h.blk, cell_of_row _ _ _ _ _ _ h.blk, cell_of_row _ _ _ _ _ _ h.blk, cell_of_row _ _ _ _ _ _ h.blk⟩
theorem enc42 : Utf8.encode 42 = ba [42] := by decide +kernel
theorem enc63 : Utf8.encode 63 = ba [63] := by decide +kernel
theorem TI.sgn {w : World} {b : Nat} {s : ByteArray} {d : Nat} {R : Nat × List UInt8 × List UInt8 × Nat × Nat × Bool} {wr w' : World} {p : Nat} {wd pt : List UInt8} {n f f' : Nat} {st st' : Bool} (h : TI w b s d R wr p wd pt n f st) {c : UInt8} (hlt : p < s.size) (hc : s[p]'hlt = c) (hs : c = 42 ∨ c = 63)
    (hJ : TJ w b s d w' (p + 1) wd (pt ++ [c]) (n + 1) f' st') (hf : f' = if n = 0 then p else f) (hst : st' = decide (c = 42)) : TI w b s d R w' (p + 1) wd (pt ++ [c]) (n + 1) f' st' := by
  refine ⟨hJ, by have := h.bn; omega, by have := h.bw; omega, by have := h.bp; simp; omega, ?_⟩
  have e := h.eq
  have : (bl s).drop p = c :: (bl s).drop (p + 1) := by
    rw [List.drop_eq_getElem_cons (by rw [bl_len]; exact hlt)]
    congr 1
  rw [this, termF, if_pos hs, ← hf, ← hst] at e
  exact e
set_option maxHeartbeats 8000000 in
set_option maxRecDepth 100000 in
theorem term_any {w : World} {b : Nat} {s : ByteArray} {p d : Nat} (h : Ps w b s p d) (hT' : hT w) (hF : Far b) (hp : p ≤ s.size) (hs : s.size ≤ 140737488351232) (ha : ∀ c ∈ bl s, c.toNat < 128 ∧ c ≠ 92)
    {p' : Nat} {wd pt : List UInt8} {n f : Nat} {st : Bool} (hR : termF ((bl s).drop p) p [] [] 0 0 false = (p', wd, pt, n, f, st)) :
    Calls Tryz.prog 122 #[.pointer (some ⟨b, 0, none⟩)] w fun e w' => e = .returned (.agg (termV wd pt n f st)) ∧ Ps w' b s p' d ∧ p' ≤ s.size ∧ Keeps (fun k => k = b) w w' := by
  obtain ⟨R, hRR⟩ : ∃ R, (p', wd, pt, n, f, st) = R := ⟨_, rfl⟩
  rw [hRR] at hR
  have HR := Lib.hid hR
  have HRR := Lib.hid hRR
  have H := Lib.hid h
  have HT := Lib.hid hT'
  have HA := Lib.hid ha
  have Hp := Lib.hid hp
  have hb := h.lt
  clear hR hRR h hT' ha hp
  go_enter Tryz.func122, Tryz.ntmps122
  go_wp2
  go_loopw [4, 5] (fun v4 v5 wr => ∃ p wd pt n f st, TI w b s d R wr p wd pt n f st) (fun _ _ wr => s.size - (match wr.cell? ⟨b, 1, none⟩ with | some (.int _ i) => i.toNat | _ => 0))
  case atStart =>
    refine ⟨p, [], [], 0, 0, false, ⟨?_, Hp.out, Nat.zero_le _, ⟨Nat.zero_le _, Nat.zero_le _⟩, ?_, ?_, ?_⟩, Nat.zero_le _, Nat.zero_le _, Nat.zero_le _, HR.out⟩
    · exact ((H.out.keeps (Keeps.alloc none' _ _) (fun h => h)).keeps (Keeps.alloc none' _ _) (fun h => h))
    · have := heap_alloc_new (w.alloc (.cells (termV [] [] 0 0 false) 168)) (.cells (termV [] [] 0 0 false) 168)
      have e : (w.alloc (.cells (termV [] [] 0 0 false) 168)).heap.size = w.heap.size + 1 := by simp
      rw [e] at this
      exact this
    · exact (Keeps.alloc _ _ _).trans (Keeps.alloc (fun k => k = b) _ _) (fun _ _ h => h)
    · exact (Keeps.alloc none' _ _).obj (heap_alloc_new w (.cells (termV [] [] 0 0 false) 168)) (fun h => h)
  case round =>
    obtain ⟨p, wd, pt, n, f, st, hI⟩ := hrel
    have c0 := hI.ps.c0
    have c1 := hI.ps.c1
    by_cases hlt : p < s.size
    · have i0 : (p : Int) < (s.size : Int) := by omega
      have Hlt := Lib.hid hlt
      obtain ⟨c, hc⟩ : ∃ c, s[p]'hlt = c := ⟨_, rfl⟩
      have hcv : ((s[p]'hlt).toNat : Int) = (c.toNat : Nat) := by rw [hc]
      go_wp2
      go_quiet (fail)
      obtain ⟨w1, hw1⟩ : ∃ w1, wr.drewN nq = w1 := ⟨_, rfl⟩
      rw [hw1]
      have I1 : TI w b s d R w1 p wd pt n f st := by rw [← hw1]; exact hI.later (Keeps.drewN' _ _ _)
      clear hw1 c0 c1
      have c0 := I1.ps.c0
      have c1 := I1.ps.c1
      go_wp2
      go_quiet (fail)
      obtain ⟨w2, hw2⟩ : ∃ w2, w1.drewN nq = w2 := ⟨_, rfl⟩
      rw [hw2]
      have I2 : TI w b s d R w2 p wd pt n f st := by rw [← hw2]; exact I1.later (Keeps.drewN' _ _ _)
      clear hw2 c0 c1
      have c0 := I2.ps.c0
      have c1 := I2.ps.c1
      have f1 := I2.ps.fr 1
      obtain ⟨t0, t1, t2, t3, t4⟩ := I2.cells
      have u0 := frozen_cells I2.blk 0
      have u1 := frozen_cells I2.blk 1
      have u2 := frozen_cells I2.blk 2
      have u3 := frozen_cells I2.blk 3
      have u4 := frozen_cells I2.blk 4
      have hne : b ≠ w.heap.size + 1 := by omega
      have hne' : w.heap.size + 1 ≠ b := by omega
      have hnp := I2.bn
      have hpl := I2.bp
      have hwl := I2.bw
      have hz1 : ¬ (9223372036854775807 < (ba pt).size + (ba [42]).size) := by rw [ba_size, ba_size, List.length_singleton]; omega
      have hz2 : ¬ (9223372036854775807 < (ba pt).size + (ba [63]).size) := by rw [ba_size, ba_size, List.length_singleton]; omega
      have ee1 := enc42
      have ee2 := enc63
      have e1 : IntKind.i64.wrap ((p : Int) + 1) = (p : Int) + 1 := by rw [wrap_in (by omega) (by omega)]
      have e2 : IntKind.i64.wrap ((n : Int) + 1) = (n : Int) + 1 := by rw [wrap_in (by omega) (by omega)]
      by_cases h42 : c = 42
      · subst h42
        have hcv : ((42 : UInt8).toNat : Int) = 42 := rfl
        by_cases hn0 : n = 0
        · subst hn0
          go_wp2
          have J := ((((I2.toTJ.set hb 3 (.int .i64 (p : Nat)) (wd' := wd) (pt' := pt) (n' := 0) (f' := p) (st' := st) rfl (by omega) (by omega)).set hb 2 (.int .i64 1) (wd' := wd) (pt' := pt) (n' := 1) (f' := p) (st' := st) rfl (by omega) (by omega)).set hb 4 (.bool true) (wd' := wd) (pt' := pt) (n' := 1) (f' := p) (st' := true) rfl (by omega) (by omega)).set hb 1 (.string (ba pt ++ ba [42])) (wd' := wd) (pt' := pt ++ [42]) (n' := 1) (f' := p) (st' := true) (by rw [ba_append]; rfl) (by omega) (by simp; omega)).go1 hb hlt
          have q := J.ps.c1
          refine ⟨⟨_, _, _, _, _, _, I2.sgn hlt hc (.inl rfl) J rfl rfl⟩, ?_⟩
          rw [q, hI.ps.c1]
          simp only [Int.toNat_natCast]
          omega
        · have en : ((n : Int) == 0) = false := beq_eq_false_iff_ne.2 (by omega)
          go_wp2
          have J := (((I2.toTJ.set hb 2 (.int .i64 ((n : Int) + 1)) (wd' := wd) (pt' := pt) (n' := n + 1) (f' := f) (st' := st) rfl (by omega) (by omega)).set hb 4 (.bool true) (wd' := wd) (pt' := pt) (n' := n + 1) (f' := f) (st' := true) rfl (by omega) (by omega)).set hb 1 (.string (ba pt ++ ba [42])) (wd' := wd) (pt' := pt ++ [42]) (n' := n + 1) (f' := f) (st' := true) (by rw [ba_append]; rfl) (by omega) (by simp; omega)).go1 hb hlt
          have q := J.ps.c1
          refine ⟨⟨_, _, _, _, _, _, I2.sgn hlt hc (.inl rfl) J (by rw [if_neg hn0]) rfl⟩, ?_⟩
          rw [q, hI.ps.c1]
          simp only [Int.toNat_natCast]
          omega
      · by_cases h63 : c = 63
        · subst h63
          have hcv : ((63 : UInt8).toNat : Int) = 63 := rfl
          by_cases hn0 : n = 0
          · subst hn0
            go_wp2
            have J := ((((I2.toTJ.set hb 3 (.int .i64 (p : Nat)) (wd' := wd) (pt' := pt) (n' := 0) (f' := p) (st' := st) rfl (by omega) (by omega)).set hb 2 (.int .i64 1) (wd' := wd) (pt' := pt) (n' := 1) (f' := p) (st' := st) rfl (by omega) (by omega)).set hb 4 (.bool false) (wd' := wd) (pt' := pt) (n' := 1) (f' := p) (st' := false) rfl (by omega) (by omega)).set hb 1 (.string (ba pt ++ ba [63])) (wd' := wd) (pt' := pt ++ [63]) (n' := 1) (f' := p) (st' := false) (by rw [ba_append]; rfl) (by omega) (by simp; omega)).go1 hb hlt
            have q := J.ps.c1
            refine ⟨⟨_, _, _, _, _, _, I2.sgn hlt hc (.inr rfl) J rfl rfl⟩, ?_⟩
            rw [q, hI.ps.c1]
            simp only [Int.toNat_natCast]
            omega
          · have en : ((n : Int) == 0) = false := beq_eq_false_iff_ne.2 (by omega)
            go_wp2
            have J := (((I2.toTJ.set hb 2 (.int .i64 ((n : Int) + 1)) (wd' := wd) (pt' := pt) (n' := n + 1) (f' := f) (st' := st) rfl (by omega) (by omega)).set hb 4 (.bool false) (wd' := wd) (pt' := pt) (n' := n + 1) (f' := f) (st' := false) rfl (by omega) (by omega)).set hb 1 (.string (ba pt ++ ba [63])) (wd' := wd) (pt' := pt ++ [63]) (n' := n + 1) (f' := f) (st' := false) (by rw [ba_append]; rfl) (by omega) (by simp; omega)).go1 hb hlt
            have q := J.ps.c1
            refine ⟨⟨_, _, _, _, _, _, I2.sgn hlt hc (.inr rfl) J (by rw [if_neg hn0]) rfl⟩, ?_⟩
            rw [q, hI.ps.c1]
            simp only [Int.toNat_natCast]
            omega
        · have ha := HA.out c (by rw [← hc]; exact List.getElem_mem (l := bl s) (by rw [bl_len]; exact hlt))
          have q1 : (((c.toNat : Nat) : Int) == 42) = false := beq_eq_false_iff_ne.2 (fun e => h42 (UInt8.toNat_inj.1 (by have : (42 : UInt8).toNat = 42 := rfl; omega)))
          have q2 : (((c.toNat : Nat) : Int) == 63) = false := beq_eq_false_iff_ne.2 (fun e => h63 (UInt8.toNat_inj.1 (by have : (63 : UInt8).toNat = 63 := rfl; omega)))
          have cB := begins_any I2.ps hlt hs hc ha.1
          have ed : (bl s).drop p = c :: (bl s).drop (p + 1) := by
            rw [List.drop_eq_getElem_cons (by rw [bl_len]; exact hlt)]
            congr 1
          obtain ⟨y, hy⟩ : ∃ y, (!stopB c && !dots ((bl s).drop p)) = y := ⟨_, rfl⟩
          rw [hy] at cB
          have eT := I2.eq
          rw [ed, termF, if_neg (by simp [h42, h63])] at eT
          go_wp2_with fail
          refine cB.mono ?_
          rintro e w3 ⟨rfl, hk3⟩
          have I3 := I2.later hk3
          cases y with
          | true =>
            have hst : (stopB c || dots (c :: (bl s).drop (p + 1))) = false := by
              rw [← ed]; revert hy; cases stopB c <;> cases dots ((bl s).drop p) <;> simp
            rw [if_neg (by rw [hst]; simp)] at eT
            have cP := piece_any I3.ps (hT_keeps HT.out I3.keeps hF.1 hF.2) hlt hs hc ha.1 ha.2
            go_wp2_with fail
            refine cP.mono ?_
            rintro e w4 ⟨rfl, hP4, hk4⟩
            have J4 := I3.toTJ.go hb hk4 hP4 hlt (by omega)
            have cA := fun (W : World) => Tryz.strings_ContainsAny_laid (ba [c]) ⟨#[42, 63, 92]⟩ W (by rw [ba_size, List.length_singleton]; omega) (by decide) (fun j x hx => by
              rw [show (ba [c]).data.toList = [c] from bl_ba [c]] at hx
              have := List.mem_of_getElem? hx
              rw [List.mem_singleton.1 this]; exact ha.1) (by
              intro j x hx
              have := List.mem_of_getElem? hx
              clear hx
              revert this; revert x; decide)
            rw [show (ba [c]).data.toList = [c] from bl_ba [c], show (⟨#[42, 63, 92]⟩ : ByteArray).data.toList = [42, 63, 92] from rfl, no_any h42 h63 ha.2] at cA
            have c4 := J4.blk
            obtain ⟨t0, t1, t2, t3, t4⟩ : w4.cell? ⟨w.heap.size + 1, 0, none⟩ = some (.string (ba wd)) ∧ w4.cell? ⟨w.heap.size + 1, 1, none⟩ = some (.string (ba pt)) ∧ w4.cell? ⟨w.heap.size + 1, 2, none⟩ = some (.int .i64 (n : Nat)) ∧ w4.cell? ⟨w.heap.size + 1, 3, none⟩ = some (.int .i64 (f : Nat)) ∧ w4.cell? ⟨w.heap.size + 1, 4, none⟩ = some (.bool st) := ⟨cell_of_row _ _ _ _ _ _ c4, cell_of_row _ _ _ _ _ _ c4, cell_of_row _ _ _ _ _ _ c4, cell_of_row _ _ _ _ _ _ c4, cell_of_row _ _ _ _ _ _ c4⟩
            have u0 := frozen_cells c4 0
            have u1 := frozen_cells c4 1
            have u4 := frozen_cells c4 4
            go_wp2_with fail
            have J5 := J4.set hb 4 (.bool false) (wd' := wd) (pt' := pt) (n' := n) (f' := f) (st' := false) rfl (by omega) (by omega)
            refine (cA _).mono ?_
            rintro e w5 ⟨rfl, hb5⟩
            have J6 := J5.later (Keeps.of_below0 hb5)
            have c6 := J6.blk
            have s0 : w5.cell? ⟨w.heap.size + 1, 0, none⟩ = some (.string (ba wd)) := cell_of_row _ _ _ _ _ _ c6
            have s1 : w5.cell? ⟨w.heap.size + 1, 1, none⟩ = some (.string (ba pt)) := cell_of_row _ _ _ _ _ _ c6
            have v0 := frozen_cells c6 0
            have v1 := frozen_cells c6 1
            have hy1 : ¬ (9223372036854775807 < (ba pt).size + (ba [c]).size) := by rw [ba_size, ba_size, List.length_singleton]; omega
            have hy2 : ¬ (9223372036854775807 < (ba wd).size + (ba [c]).size) := by rw [ba_size, ba_size, List.length_singleton]; omega
            go_wp2
            have J7 := (J6.set hb 0 (.string (ba wd ++ ba [c])) (wd' := wd ++ [c]) (pt' := pt) (n' := n) (f' := f) (st' := false) (by rw [ba_append]; rfl) (by omega) (by simp; omega)).set hb 1 (.string (ba pt ++ ba [c])) (wd' := wd ++ [c]) (pt' := pt ++ [c]) (n' := n) (f' := f) (st' := false) (by rw [ba_append]; rfl) (by omega) (by simp; omega)
            have q := J7.ps.c1
            refine ⟨⟨_, _, _, _, _, _, ⟨J7, by omega, by simp; omega, by simp; omega, eT⟩⟩, ?_⟩
            rw [q, hI.ps.c1]
            simp only [Int.toNat_natCast]
            omega
          | false =>
            have hst : (stopB c || dots (c :: (bl s).drop (p + 1))) = true := by
              rw [← ed]; revert hy; cases stopB c <;> cases dots ((bl s).drop p) <;> simp
            rw [if_pos hst] at eT
            have eR := eT.trans HRR.out.symm
            injection eR with eR1 eR
            injection eR with eR2 eR
            injection eR with eR3 eR
            injection eR with eR4 eR
            injection eR with eR5 eR6
            subst eR1 eR2 eR3 eR4 eR5 eR6
            obtain ⟨t0, t1, t2, t3, t4⟩ := I3.cells
            have r0 : w3.cell? ⟨w.heap.size, 0, none⟩ = some (.string (ba [])) := cell_of_row _ _ _ _ _ _ I3.res
            have r1 : w3.cell? ⟨w.heap.size, 1, none⟩ = some (.string (ba [])) := cell_of_row _ _ _ _ _ _ I3.res
            have r2 : w3.cell? ⟨w.heap.size, 2, none⟩ = some (.int .i64 0) := cell_of_row _ _ _ _ _ _ I3.res
            have r3 : w3.cell? ⟨w.heap.size, 3, none⟩ = some (.int .i64 0) := cell_of_row _ _ _ _ _ _ I3.res
            have r4 : w3.cell? ⟨w.heap.size, 4, none⟩ = some (.bool false) := cell_of_row _ _ _ _ _ _ I3.res
            have g0 := frozen_cells I3.res 0
            have g1 := frozen_cells I3.res 1
            have g2 := frozen_cells I3.res 2
            have g3 := frozen_cells I3.res 3
            have g4 := frozen_cells I3.res 4
            go_wp2
            have I1 := I3
            simp [bodyPost, results, Tryz.results122, go_sem, t0, t1, t2, t3, t4, r0, r1, r2, r3, r4, termV]
            exact I1.toTJ.fin hb (Keeps.set5 _ _ _ _ _ _ _)
    · have i0 : ¬ (p : Int) < (s.size : Int) := by omega
      go_wp2
      go_quiet (fail)
      obtain ⟨w1, hw1⟩ : ∃ w1, wr.drewN nq = w1 := ⟨_, rfl⟩
      rw [hw1]
      have I1 : TI w b s d R w1 p wd pt n f st := by rw [← hw1]; exact hI.later (Keeps.drewN' _ _ _)
      clear hw1 c0 c1
      obtain ⟨t0, t1, t2, t3, t4⟩ := I1.cells
      have r0 : w1.cell? ⟨w.heap.size, 0, none⟩ = some (.string (ba [])) := cell_of_row _ _ _ _ _ _ I1.res
      have r1 : w1.cell? ⟨w.heap.size, 1, none⟩ = some (.string (ba [])) := cell_of_row _ _ _ _ _ _ I1.res
      have r2 : w1.cell? ⟨w.heap.size, 2, none⟩ = some (.int .i64 0) := cell_of_row _ _ _ _ _ _ I1.res
      have r3 : w1.cell? ⟨w.heap.size, 3, none⟩ = some (.int .i64 0) := cell_of_row _ _ _ _ _ _ I1.res
      have r4 : w1.cell? ⟨w.heap.size, 4, none⟩ = some (.bool false) := cell_of_row _ _ _ _ _ _ I1.res
      have g0 := frozen_cells I1.res 0
      have g1 := frozen_cells I1.res 1
      have g2 := frozen_cells I1.res 2
      have g3 := frozen_cells I1.res 3
      have g4 := frozen_cells I1.res 4
      have eT := I1.eq
      rw [List.drop_eq_nil_of_le (by rw [bl_len]; omega)] at eT
      have eR := eT.trans HRR.out.symm
      injection eR with eR1 eR
      injection eR with eR2 eR
      injection eR with eR3 eR
      injection eR with eR4 eR
      injection eR with eR5 eR6
      subst eR1 eR2 eR3 eR4 eR5 eR6
      go_wp2
      simp [bodyPost, results, Tryz.results122, go_sem, t0, t1, t2, t3, t4, r0, r1, r2, r3, r4, termV]
      exact I1.toTJ.fin hb (Keeps.set5 _ _ _ _ _ _ _)
end Go.Proofs.YtlomjbfhalmalaaGreatDoor.C
