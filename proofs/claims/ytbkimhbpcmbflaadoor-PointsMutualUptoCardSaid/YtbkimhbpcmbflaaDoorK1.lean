/-
  Between the printed contracts' rows and the hand-walked ones; the printed answers of layer 2 in plain words: Of, Text, SameRunes, the kit's FullRunes.
-/
import Derived.Test.YtbkimhbpcmbflaaDoorA7
import Derived.Test.YtbkimhbpcmbflaaDoorB1
set_option linter.unusedVariables false
set_option linter.unusedSimpArgs false
namespace Go.Proofs.YtbkimhbpcmbflaaDoor.C
open Go Go.RowKit Go.Proofs.YtbkimhbpcmbflaaDoor.M Go.Proofs.YtbkimhbpcmbflaaDoor.E Go.Proofs.YtbkimhbpcmbflaaDoor.PAll Go.Proofs.YtbkimhbpcmbflaaDoorW.PrintWords

/-! ### rows -/
theorem C_of {w : World} {B : Nat} {k : IntKind} {A : Option Addr} {xs : List Int} (h : Rd w B k A xs) (hl : xs.length ≤ 9223372036854775807) : (Kd.int k).C w A xs.length xs := by
  refine ⟨rfl, hl, fun hp => ?_⟩
  rcases h with rfl | ⟨x, rfl, hb, hc⟩
  · simp at hp
  · refine ⟨x, rfl, fun j p hj => ⟨[.int k p], rfl, rfl, fun i u hi => ?_⟩⟩
    rcases i with _ | i
    · cases hi
      have := hc j p hj
      simpa [Kd.int, Kd.scalar] using this
    · simp at hi
theorem Rd_of {w : World} {B : Nat} {k : IntKind} {A : Option Addr} {xs : List Int} (h : (Kd.int k).C w A xs.length xs) (hb : ∀ x, A = some x → x.block < B) : Rd w B k A xs := by
  obtain ⟨_, _, h3⟩ := h
  rcases Nat.eq_zero_or_pos xs.length with hz | hp
  · exact .inl (List.eq_nil_of_length_eq_zero hz)
  · obtain ⟨x, rfl, hc⟩ := h3 hp
    refine .inr ⟨x, rfl, hb x rfl, fun j u hj => ?_⟩
    obtain ⟨c, hcl, hcc, hcell⟩ := hc j u hj
    have e : c = [.int k u] := hcc
    subst e
    have := hcell 0 _ rfl
    simpa [Kd.int, Kd.scalar] using this
/-- what a printed contract hands back, as a row that is read -/
theorem R_rd {w : World} {e base : Nat} {ok : Nat → Prop} {k : IntKind} {v : Value} {xs : List Int} (h : (Kd.int k).R e w base ok v xs) : ∃ A c, v = .slice A xs.length c ∧ xs.length ≤ c ∧ Rd w w.heap.size k A xs := by
  obtain ⟨A, c, rfl, hl, hC⟩ := Kd.R_reads h
  refine ⟨A, c, rfl, hl, ?_⟩
  rcases Nat.eq_zero_or_pos xs.length with hz | hp
  · exact .inl (List.eq_nil_of_length_eq_zero hz)
  · obtain ⟨g, cap, he, hb, hlt, _⟩ := Kd.R_form h hp
    injection he with he _ _
    exact Rd_of hC (fun x hx => by rw [he] at hx; injection hx with hx; rw [← hx]; exact hlt)
theorem R_row {w : World} {e base : Nat} {ok : Nat → Prop} {k : IntKind} {v : Value} {xs : List Int} (h : (Kd.int k).R e w base ok v xs) : Row w base e k v xs := by
  obtain ⟨_, inner, ho, hr⟩ := h
  have e1 : inner = xs.map (Value.int k) := by
    have hl : inner.length = xs.length := by have := hr.1; simpa [Kd.int, Kd.scalar] using this
    refine List.ext_getElem? fun j => ?_
    rcases Nat.lt_or_ge j xs.length with hj | hj
    · have := hr.2 j xs[j] (List.getElem?_eq_getElem hj)
      have h2 : (inner.drop (j * 1)).take 1 = [.int k xs[j]] := this
      rw [Nat.mul_one] at h2
      have h3 := congrArg (·[0]?) h2
      simp only [List.getElem?_take, List.getElem?_drop] at h3
      simpa [List.getElem?_eq_getElem hj] using h3
    · rw [List.getElem?_eq_none (by omega), List.getElem?_eq_none (by simp; omega)]
  rw [e1] at ho
  exact ho

/-- a slice of whole numbers, as it comes in -/
def IsRow (k : IntKind) (w : World) (a : Option Addr) (len cap : Nat) (zs : List Int) : Prop :=
  (a = none ∧ len = 0 ∧ cap = 0 ∧ zs = []) ∨
  ∃ x, a = some x ∧ (0 < cap → x.block < w.heap.size) ∧ len ≤ cap ∧ cap ≤ maxLen ∧ zs.length = cap ∧ (∀ i, i < zs.length → w.cell? (x.add i) = some (.int k (zs.getD i 0))) ∧ ∀ n ∈ zs, (Lit.int k n).wf = true
theorem cell_blk {w : World} {p : Addr} {v : Value} (h : w.cell? p = some v) : p.block < w.heap.size := by
  rcases Nat.lt_or_ge p.block w.heap.size with h' | h'
  · exact h'
  · simp [World.cell?, Array.getElem?_eq_none h'] at h
theorem IsRow.rd {k : IntKind} {w : World} {a : Option Addr} {len cap : Nat} {zs : List Int} (h : IsRow k w a len cap zs) : (zs.take len).length = len ∧ Rd w w.heap.size k a (zs.take len) ∧ len ≤ cap ∧ ∀ x ∈ zs.take len, (Lit.int k x).wf = true := by
  rcases h with ⟨rfl, rfl, rfl, rfl⟩ | ⟨x, rfl, hb, hl, hm, hz, hc, hw⟩
  · exact ⟨rfl, .inl rfl, Nat.le_refl _, by simp⟩
  · refine ⟨by rw [List.length_take]; omega, ?_, hl, fun y hy => hw y (List.mem_of_mem_take hy)⟩
    rcases Nat.eq_zero_or_pos len with h0 | h0
    · left; rw [h0]; rfl
    refine .inr ⟨x, rfl, hb (by omega), fun j u hj => ?_⟩
    rw [List.getElem?_take] at hj
    split at hj
    · have hlt := (List.getElem?_eq_some_iff.1 hj).1
      rw [hc j hlt, List.getD_eq_getElem?_getD, hj]; rfl
    · cases hj

/-! ### points and their bytes -/
theorem isPt_pt {t : List UInt8} (h : t ≠ []) : isPt (pt t : Nat) = true := by
  unfold isPt pt
  have h2 := d_facts h
  cases hi : ill t with
  | true =>
    have := ill_b0 h hi
    simp only [if_true]
    rw [Bool.or_eq_true]
    right
    simp; omega
  | false =>
    simp only [Bool.false_eq_true, if_false]
    rw [Bool.or_eq_true]
    left
    unfold Lib.validRune
    have := h2.2.2.2.1
    simp; omega
theorem pb_big {p : Nat} (h0 : 1114240 ≤ p) (h1 : p ≤ 1114367) : pb (p : Int) = pbytes p := by
  have hv : Lib.validRune (p : Int) = false := by unfold Lib.validRune; simp; omega
  have e : ((p : Int) - 1114112).toNat = p - 1114112 := by omega
  have h2 : 1114112 < p := by omega
  unfold pb pbytes
  rw [hv, if_neg (by simp), if_pos h2, e]
theorem pb_ok {c : Nat} (h : okc c) : pb (c : Int) = pbytes c := by
  have h' : c < 55296 ∨ (57344 ≤ c ∧ c ≤ 1114111) := h
  have hv : Lib.validRune (c : Int) = true := by unfold Lib.validRune; simp; omega
  have h2 : ¬ 1114112 < c := by omega
  unfold pb pbytes
  rw [if_pos hv, if_neg h2, enc]
theorem pb_pt {t : List UInt8} (h : t ≠ []) : pb (pt t : Nat) = pbytes (pt t) := by
  cases hi : ill t with
  | true =>
    have := ill_b0 h hi
    have e : pt t = 1114112 + b0 t := by simp [pt, hi]
    exact pb_big (by omega) (by omega)
  | false =>
    have e : pt t = dc t := by simp [pt, hi]
    rw [e]
    exact pb_ok (okc_dc h)
theorem textP_pts (l : List UInt8) : textP (pts l) = l ∧ ∀ x ∈ pts l, isPt x = true := by
  constructor
  · have := pts_bytes l
    unfold textP pts
    rw [List.flatMap_map]
    refine Eq.trans ?_ this
    clear this
    have key : ∀ ts : List (List UInt8), (∀ t ∈ ts, t ≠ []) → ts.flatMap (fun t => pb (pt t : Nat)) = ts.flatMap (fun t => pbytes (pt t)) := by
      intro ts
      induction ts with
      | nil => intro _; simp only [List.flatMap_nil]
      | cons a ts ih =>
        intro hh
        rw [List.flatMap_cons, List.flatMap_cons, pb_pt (hh a (by simp)), ih (fun t ht => hh t (by simp [ht]))]
    exact key _ (fun t ht => sfx_ne ht)
  · intro x hx
    unfold pts at hx
    obtain ⟨t, ht, e⟩ := List.mem_map.1 hx
    rw [← e]
    exact isPt_pt (sfx_ne ht)
theorem pts_range (l : List UInt8) : ∀ x ∈ pts l, -2147483648 ≤ x ∧ x ≤ 2147483647 := by
  intro x hx
  have := (textP_pts l).2 x hx
  unfold isPt Lib.validRune at this
  simp at this
  omega
theorem pts_len (l : List UInt8) : (pts l).length ≤ l.length := by
  unfold pts
  rw [List.length_map]
  exact sfx_len l

set_option maxHeartbeats 4000000 in
set_option maxRecDepth 1000000 in
theorem law_PointsBack (w : World) (hE : HE w) (s : ByteArray) (hs : s.size ≤ 140737488351232) (hb : s.size ≤ 1048576) :
    Calls Tryd.prog 5 #[.string s] w fun e w' => e = .returned (.bool true) ∧ Below w.heap.size w w' := by
  have hlen := bl_len s
  have hpl := pts_len (bl s)
  have c1 : Calls Tryd.prog 25 #[.string s] w fun e w' => ∃ A n c, e = .returned (.slice A n c) ∧ n = (pts (bl s)).length ∧ Rd w' w'.heap.size .i32 A (pts (bl s)) ∧ Below w.heap.size w w' :=
    (of_any s w hs (by have := sfx_len (bl s); omega)).mono fun e w' ⟨v, he, hr, hb⟩ => by
      obtain ⟨A, c, rfl, _, hrd⟩ := hr.reads
      exact ⟨A, _, c, he, rfl, hrd, hb⟩
  have c2 : ∀ (W : World) (A : Option Addr) (c : Nat), Rd W W.heap.size .i32 A (pts (bl s)) → Calls Tryd.prog 31 #[.slice A (pts (bl s)).length c] W fun e w' => e = .returned (.tuple #[.string s, .nilIface]) ∧ Below W.heap.size W w' := fun W A c hR =>
    (text_any W A c (pts (bl s)) (by omega) (pts_range _) hR).mono fun e w' ⟨h, hb⟩ => by
      refine ⟨?_, hb⟩
      rcases h with ⟨_, h⟩ | ⟨k, x, hk, hp, _, _⟩
      · rw [h, (textP_pts (bl s)).1]
      · exact absurd ((textP_pts (bl s)).2 x (List.mem_of_getElem? hk)) (by rw [hp]; simp)
  have hx : (pts (bl s)).length ≤ 1048576 := by omega
  obtain ⟨n, hn⟩ : ∃ n, n = (pts (bl s)).length := ⟨_, rfl⟩
  generalize pts (bl s) = xs at c1 c2 hn hx
  rw [← hn] at c1 c2
  clear hn hlen hpl hx
  go_enter Tryd.func5, Tryd.ntmps5
  go_wp2_with (first | (go_at_call 25; refine c1.mono ?_; rintro e w1 ⟨A, m, c, rfl, rfl, hrd, hb1⟩))
  go_wp2_with (first | (go_at_call 31; refine (c2 _ _ _ hrd).mono ?_; rintro e w2 ⟨rfl, hb2⟩))
  have hE2 : HE w2 := (hE.below hb1 (Nat.le_refl _)).below hb2 (Nat.le_refl _)
  have hb12 := hb1.trans (hb2.mono hb1.size)
  go_wp2_with (first | (go_at_call 28; refine (works_any _ hE2).mono ?_; rintro e w3 ⟨rfl, hb3⟩))
  all_goals go_ret
  exact ⟨rfl, hb12.trans (hb3.mono hb12.size)⟩
end Go.Proofs.YtbkimhbpcmbflaaDoor.C
