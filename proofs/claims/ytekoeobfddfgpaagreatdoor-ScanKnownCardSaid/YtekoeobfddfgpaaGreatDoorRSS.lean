/-
  Of this seat's texts what the claim wants (printed by a program): SS.
-/
import Derived.Test.YtekoeobfddfgpaaGreatDoorRMM
import Derived.Lib.Small
import Derived.Scope
set_option linter.unusedVariables false
set_option linter.unusedSimpArgs false
set_option maxRecDepth 100000
namespace Go.Proofs.YtekoeobfddfgpaaGreatDoor.M
open Go Go.Lib
def Ch (l r : List UInt8) : Prop := ∃ q, sfx l = q ++ sfx r
theorem Ch.refl (l : List UInt8) : Ch l l := ⟨[], rfl⟩
theorem Ch.trans {a b c : List UInt8} (h : Ch a b) (k : Ch b c) : Ch a c := by
  obtain ⟨q, hq⟩ := h
  obtain ⟨p, hp⟩ := k
  exact ⟨q ++ p, by rw [hq, hp, List.append_assoc]⟩
theorem Ch.nil (l : List UInt8) : Ch l [] := ⟨sfx l, by rw [sfx_nil, List.append_nil]⟩
theorem Ch.unit {l : List UInt8} (h : l ≠ []) : Ch l (l.drop (dw l)) := ⟨[l], by rw [sfx_cons h]; rfl⟩
theorem Ch.drop {l r : List UInt8} (h : Ch l r) : r.length ≤ l.length ∧ r = l.drop (l.length - r.length) := by
  by_cases hr : r = []
  · subst hr; exact ⟨by simp, by simp⟩
  · obtain ⟨q, hq⟩ := h
    exact units_drop hq hr
theorem b0_unit {l : List UInt8} (h : l ≠ []) (hb : b0 l < 128) : dw l = 1 ∧ dc l = b0 l := by
  have f := d_facts h
  have : dw l = 1 := by
    rcases Nat.lt_or_ge (dw l) 2 with h2 | h2
    · omega
    · have := (f.2.2.2.2.2.1 h2).1; omega
  exact ⟨this, by have := f.2.2.2.2.1 this; omega⟩
theorem unit_bytes {l : List UInt8} (h : l ≠ []) (i : Nat) (h1 : 1 ≤ i) (hi : i < dw l) : 128 ≤ bt l i := by
  rcases ill_or h with ⟨_, _, _, h4⟩ | ⟨_, hb⟩
  · omega
  · exact (bg_cont h1 (by have := hb; omega)).1
theorem b0_bt (l : List UInt8) : b0 l = bt l 0 := rfl
theorem Ch.ascii : ∀ n (a u : List UInt8), a.length ≤ n → b0 u < 128 → u ≠ [] → Ch (a ++ u) u := by
  intro n
  induction n with
  | zero => intro a u ha _ _; have : a = [] := List.eq_nil_of_length_eq_zero (by omega); subst this; exact Ch.refl _
  | succ n ih =>
    intro a u ha hb hu
    by_cases h0 : a = []
    · subst h0; exact Ch.refl _
    · have hne : a ++ u ≠ [] := by simp [h0]
      have hp := dw_pos hne
      have hd : dw (a ++ u) ≤ a.length := by
        rcases Nat.lt_or_ge a.length (dw (a ++ u)) with h | h
        · exfalso
          have := unit_bytes hne a.length (List.length_pos_iff.2 h0) h
          unfold bt at this
          rw [List.getD_eq_getElem?_getD, List.getElem?_append_right (Nat.le_refl _), Nat.sub_self, ← List.getD_eq_getElem?_getD] at this
          have hb' : (u.getD 0 0).toNat < 128 := hb
          omega
        · exact h
      have hs := Ch.unit hne
      rw [List.drop_append_of_le_length hd] at hs
      exact hs.trans (ih _ u (by simp; omega) hb hu)
theorem Ch.ascii1 {c : UInt8} (u : List UInt8) (hc : c.toNat < 128) : Ch (c :: u) u := by
  have hb : b0 (c :: u) < 128 := hc
  have := Ch.unit (l := c :: u) (by simp)
  rw [(b0_unit (by simp) hb).1] at this
  exact this
theorem Ch.behind {c : UInt8} (a u : List UInt8) (hc : c.toNat < 128) : Ch (a ++ c :: u) u :=
  (Ch.ascii _ a (c :: u) (Nat.le_refl _) hc (by simp)).trans (Ch.ascii1 u hc)
def pstep (p : Nat × Nat) (t : List UInt8) : Nat × Nat := if dc t = 10 then (p.1 + 1, 1) else (p.1, p.2 + 1)
def plc (p : Nat × Nat) (q : List (List UInt8)) : Nat × Nat := q.foldl pstep p
def plB (p : Nat × Nat) (l : List UInt8) : Nat × Nat := plc p (sfx l)
theorem plc_nil (p : Nat × Nat) : plc p [] = p := rfl
theorem plc_cons (p : Nat × Nat) (t : List UInt8) (q : List (List UInt8)) : plc p (t :: q) = plc (pstep p t) q := rfl
theorem plc_app (p : Nat × Nat) (a b : List (List UInt8)) : plc p (a ++ b) = plc (plc p a) b := by unfold plc; rw [List.foldl_append]
theorem plB_nil (p : Nat × Nat) : plB p [] = p := by unfold plB; rw [sfx_nil]; rfl
theorem plB_cons (p : Nat × Nat) {l : List UInt8} (h : l ≠ []) : plB p l = plB (pstep p l) (l.drop (dw l)) := by unfold plB; rw [sfx_cons h, plc_cons]
theorem dec_take {t : List UInt8} (h : t ≠ []) {n : Nat} (hn : dw t ≤ n) : dc (t.take n) = dc t ∧ dw (t.take n) = dw t := by
  have hp := dw_pos h
  have hne : t.take n ≠ [] := by
    intro e
    have := congrArg List.length e
    rw [List.length_take] at this
    have hl : 0 < t.length := List.length_pos_iff.2 h
    rw [List.length_nil] at this
    omega
  cases hi : ill t with
  | false =>
    have e1 := take_enc h hi
    have e2 : t.take n = enc (dc t) ++ (t.take n).drop (dw t) := by
      have := List.take_append_drop (dw t) (t.take n)
      rw [List.take_take, Nat.min_eq_left hn, e1] at this
      exact this.symm
    have hw : dw t = (enc (dc t)).length := by
      have h3 := List.take_append_drop (dw t) t
      rw [e1] at h3
      have := dw_enc (okc_dc h) (t.drop (dw t))
      rw [h3] at this
      exact this
    rw [e2, dc_enc (okc_dc h), dw_enc (okc_dc h)]
    exact ⟨rfl, hw.symm⟩
  | true =>
    have hdi : dc t = 65533 ∧ dw t = 1 := by simpa [ill] using hi
    cases hj : ill (t.take n) with
    | true =>
      have hdj : dc (t.take n) = 65533 ∧ dw (t.take n) = 1 := by simpa [ill] using hj
      rw [hdi.1, hdi.2, hdj.1, hdj.2]
      exact ⟨rfl, rfl⟩
    | false =>
      exfalso
      have e1 := take_enc hne hj
      have e2 : t = enc (dc (t.take n)) ++ ((t.take n).drop (dw (t.take n)) ++ t.drop n) := by
        rw [← e1, ← List.append_assoc, List.take_append_drop, List.take_append_drop]
      have k1 := dc_enc (okc_dc hne) ((t.take n).drop (dw (t.take n)) ++ t.drop n)
      have k2 := dw_enc (okc_dc hne) ((t.take n).drop (dw (t.take n)) ++ t.drop n)
      rw [← e2] at k1 k2
      rw [hdi.1] at k1
      rw [hdi.2, ← k1] at k2
      have e3 : (enc 65533).length = 3 := by decide
      rw [e3] at k2
      omega
theorem plc_take : ∀ (q : List (List UInt8)) (t : List UInt8) (n : Nat) (p : Nat × Nat), n ≤ t.length → sfx t = q ++ sfx (t.drop n) → plc p q = plB p (t.take n) := by
  intro q
  induction q with
  | nil =>
    intro t n p hn hs
    by_cases h : t = []
    · subst h; simp [plB_nil, plc_nil]
    · rcases Nat.eq_zero_or_pos n with rfl | hp
      · simp [plB_nil, plc_nil]
      · exfalso
        by_cases hd : t.drop n = []
        · rw [hd, sfx_nil, sfx_cons h] at hs; simp at hs
        · rw [sfx_cons h, sfx_cons hd] at hs
          simp only [List.nil_append, List.cons.injEq] at hs
          have := congrArg List.length hs.1
          have h2 := List.length_pos_iff.2 h
          simp at this; omega
  | cons q0 q ih =>
    intro t n p hn hs
    by_cases h : t = []
    · subst h; rw [sfx_nil] at hs; simp at hs
    · rw [sfx_cons h] at hs
      simp only [List.cons_append, List.cons.injEq] at hs
      obtain ⟨rfl, hs⟩ := hs
      have hle := dw_len h
      have hp := dw_pos h
      have hc : Ch (t.drop (dw t)) (t.drop n) := ⟨q, hs⟩
      have hd : dw t ≤ n := by
        have := hc.drop.1
        simp at this; omega
      have e : t.drop n = (t.drop (dw t)).drop (n - dw t) := by rw [List.drop_drop, show dw t + (n - dw t) = n by omega]
      rw [e] at hs
      have hi := ih (t.drop (dw t)) (n - dw t) (pstep p t) (by rw [List.length_drop]; omega) hs
      have hne : t.take n ≠ [] := by
        intro e; have := congrArg List.length e; have h2 := List.length_pos_iff.2 h; rw [List.length_take, List.length_nil] at this; omega
      obtain ⟨e1, e2⟩ := dec_take h hd
      rw [plc_cons, hi, plB_cons p hne, e2, List.drop_take]
      congr 1
      unfold pstep
      rw [e1]
theorem Ch.plc {l r : List UInt8} (h : Ch l r) (p : Nat × Nat) : ∃ q, sfx l = q ++ sfx r ∧ plc p q = plB p (l.take (l.length - r.length)) := by
  obtain ⟨q, hq⟩ := h
  obtain ⟨h1, h2⟩ := Ch.drop ⟨q, hq⟩
  refine ⟨q, hq, plc_take q l _ p (by omega) ?_⟩
  rw [← h2]; exact hq
def lastLine : List UInt8 → List UInt8
  | [] => []
  | c :: r => if r.count 10 = 0 then (if c = 10 then r else c :: r) else lastLine r
def skipP (p : Nat × Nat) (part : List UInt8) : Nat × Nat :=
  if part.count 10 = 0 then (p.1, p.2 + (sfx part).length) else (p.1 + part.count 10, 1 + (sfx (lastLine part)).length)
theorem lastLine_none : ∀ a : List UInt8, a.count 10 = 0 → lastLine a = a := by
  intro a
  cases a with
  | nil => intro; rfl
  | cons c r =>
    intro h
    rw [List.count_cons] at h
    have h1 : r.count 10 = 0 := by omega
    have h2 : ¬ c = 10 := by
      intro e; subst e; simp at h
    simp [lastLine, h1, h2]
theorem lastLine_app : ∀ (a r : List UInt8), a.count 10 = 0 → lastLine (a ++ r) = if r.count 10 = 0 then a ++ r else lastLine r := by
  intro a
  induction a with
  | nil =>
    intro r _
    by_cases h : r.count 10 = 0
    · simp [h, lastLine_none r h]
    · simp [h]
  | cons c a ih =>
    intro r h
    rw [List.count_cons] at h
    have h1 : a.count 10 = 0 := by omega
    have h2 : ¬ c = 10 := by
      intro e; subst e; simp at h
    rw [List.cons_append, lastLine, List.count_append, h1, Nat.zero_add]
    by_cases hr : r.count 10 = 0
    · simp [hr, h2]
    · rw [if_neg hr, if_neg hr, ih r h1, if_neg hr]
theorem ofNat_ge {n : Nat} (h : 11 ≤ n) (h2 : n < 256) : UInt8.ofNat n ≠ 10 := by
  intro e
  have := congrArg UInt8.toNat e
  rw [ofNat_toNat h2] at this
  have : n = 10 := this
  omega
theorem enc_no10 {c : Nat} (h : okc c) (hc : c ≠ 10) : (10 : UInt8) ∉ enc c := by
  rw [enc_eq h]
  have hk : c ≤ 1114111 := by unfold okc at h; omega
  split
  · intro hm
    rw [List.mem_singleton] at hm
    have := congrArg UInt8.toNat hm
    rw [ofNat_toNat (by omega)] at this
    have : 10 = c := this
    omega
  · split
    · intro hm
      simp only [List.mem_cons, List.not_mem_nil, or_false] at hm
      rcases hm with hm | hm <;> exact absurd hm.symm (ofNat_ge (by omega) (by omega))
    · split
      · intro hm
        simp only [List.mem_cons, List.not_mem_nil, or_false] at hm
        rcases hm with hm | hm | hm <;> exact absurd hm.symm (ofNat_ge (by omega) (by omega))
      · intro hm
        simp only [List.mem_cons, List.not_mem_nil, or_false] at hm
        rcases hm with hm | hm | hm | hm <;> exact absurd hm.symm (ofNat_ge (by omega) (by omega))
theorem unit_no10 {l : List UInt8} (h : l ≠ []) (hc : dc l ≠ 10) : (l.take (dw l)).count 10 = 0 := by
  rw [List.count_eq_zero]
  cases hi : ill l with
  | false => rw [take_enc h hi]; exact enc_no10 (okc_dc h) hc
  | true =>
    rw [take_ill h hi]
    have := (ill_b0 h hi).1
    intro hm
    rw [List.mem_singleton] at hm
    have h2 := congrArg UInt8.toNat hm
    have h3 : (l.getD 0 0).toNat = b0 l := rfl
    have h4 : (10 : UInt8).toNat = 10 := rfl
    omega
theorem unit_10 {l : List UInt8} (h : l ≠ []) (hc : dc l = 10) : ∃ r, l = 10 :: r ∧ dw l = 1 := by
  have f := d_facts h
  have h1 : dw l = 1 := by
    rcases Nat.lt_or_ge (dw l) 2 with h2 | h2
    · omega
    · have := (f.2.2.2.2.2.1 h2).2; omega
  have h2 : b0 l = 10 := by have := f.2.2.2.2.1 h1; omega
  cases l with
  | nil => exact absurd rfl h
  | cons c r =>
    have : c.toNat = 10 := h2
    have e : c = 10 := by rw [← u8_of this]; rfl
    exact ⟨r, by rw [e], h1⟩
theorem plB_skip : ∀ (l : List UInt8) (p : Nat × Nat), plB p l = skipP p l := by
  intro l
  induction l using sfx_ind with
  | h0 => intro p; simp [plB_nil, skipP, sfx_nil]
  | h1 l h ih =>
    intro p
    rw [plB_cons p h, ih]
    have hsx : (sfx l).length = (sfx (l.drop (dw l))).length + 1 := by rw [sfx_cons h]; rfl
    by_cases hc : dc l = 10
    · obtain ⟨r, rfl, h1⟩ := unit_10 h hc
      have e : (10 :: r : List UInt8).drop (dw (10 :: r)) = r := by rw [h1]; rfl
      rw [e] at hsx ⊢
      unfold pstep skipP
      rw [if_pos hc]
      have e2 : (10 :: r : List UInt8).count 10 = r.count 10 + 1 := by simp
      rw [e2, if_neg (show ¬ r.count 10 + 1 = 0 by omega), lastLine]
      by_cases hr : r.count 10 = 0
      · simp [hr]
      · rw [if_neg hr, if_neg hr]
        simp; omega
    · have hn := unit_no10 h hc
      have e : l = l.take (dw l) ++ l.drop (dw l) := (List.take_append_drop _ _).symm
      have e2 : l.count 10 = (l.drop (dw l)).count 10 := by conv => lhs; rw [e]
                                                            rw [List.count_append, hn, Nat.zero_add]
      have e3 : lastLine l = if (l.drop (dw l)).count 10 = 0 then l else lastLine (l.drop (dw l)) := by
        conv => lhs; rw [e]
        rw [lastLine_app _ _ hn, List.take_append_drop]
      unfold pstep skipP
      rw [if_neg hc, e2, e3]
      by_cases hr : (l.drop (dw l)).count 10 = 0
      · simp [hr, hsx]; omega
      · simp [hr]
end Go.Proofs.YtekoeobfddfgpaaGreatDoor.M
set_option linter.unusedVariables false
set_option linter.unusedSimpArgs false
set_option maxRecDepth 100000
namespace Go.Proofs.YtekoeobfddfgpaaGreatDoor.M
open Go Go.Lib
def blk (c : UInt8) : Bool := c == 32 || c == 9 || c == 13 || c == 10
def sgn (c : UInt8) : Bool := c == 38 || c == 60 || c == 61 || c == 47 || c == 45 || c == 91 || c == 93 || c == 35 || c == 42 || c == 39 || c == 92
theorem u8_all {P : UInt8 → Prop} (h : ∀ n, n < 256 → P (UInt8.ofNat n)) : ∀ c, P c := fun c => by
  have := h c.toNat (u8_lt c)
  rwa [u8_of rfl] at this
theorem blk_ascii : ∀ c : UInt8, blk c = true → c.toNat < 128 := u8_all (by decide +kernel)
theorem sgn_ascii : ∀ c : UInt8, sgn c = true → c.toNat < 128 := u8_all (by decide +kernel)
def quo : List UInt8 → Option (List UInt8 × Nat)
  | [] => none
  | [c] => if c = 39 then some ([], 1) else none
  | c :: d :: r => if c = 39 then (if d = 39 then (quo r).map fun x => (39 :: x.1, x.2 + 2) else some ([], 1)) else (quo (d :: r)).map fun x => (c :: x.1, x.2 + 1)
def hexv (c : UInt8) : Option Nat :=
  if 48 ≤ c.toNat ∧ c.toNat ≤ 57 then some (c.toNat - 48) else if 97 ≤ c.toNat ∧ c.toNat ≤ 102 then some (c.toNat - 87) else if 65 ≤ c.toNat ∧ c.toNat ≤ 70 then some (c.toNat - 55) else none
def digs : Nat → List UInt8 → Nat → Nat × Nat
  | 0, _, v => (v, 0)
  | _ + 1, [], v => (v, 0)
  | m + 1, c :: r, v => match hexv c with
    | none => (v, 0)
    | some d => ((digs m r (16 * v + d)).1, (digs m r (16 * v + d)).2 + 1)
def esc : List UInt8 → Option (List UInt8 × Nat)
  | [] => none
  | c :: r =>
    if c = 120 then (if (digs 2 r 0).2 < 2 ∨ (digs 2 r 0).1 < 128 then none else some ([UInt8.ofNat (digs 2 r 0).1], 4))
    else if c = 117 then match r with
      | [] => none
      | d :: q => if d ≠ 123 ∨ (digs 6 q 0).2 = 0 ∨ q[(digs 6 q 0).2]? ≠ some 125 ∨ Lib.validRune ((digs 6 q 0).1 : Nat) = false then none else some (enc (digs 6 q 0).1, (digs 6 q 0).2 + 4)
    else some ((c :: r).take (dw (c :: r)), 1 + dw (c :: r))
def pieceM : List UInt8 → List UInt8 × Nat × Nat
  | [] => ([], 0, 0)
  | c :: r =>
    if c = 39 then match quo r with
      | some x => (x.1, x.2 + 1, 0)
      | none => ([], 0, 10)
    else if c = 92 then match esc r with
      | some x => (x.1, x.2, 0)
      | none => ([], 0, 9)
    else if blk c || sgn c then ([], 0, 0)
    else ((c :: r).take (dw (c :: r)), dw (c :: r), 0)
def textM (t : List UInt8) : List UInt8 × Nat × Nat :=
  if h : t = [] then ([], 0, 0)
  else if (pieceM t).2.2 ≠ 0 then ([], 0, (pieceM t).2.2)
  else if hw : (pieceM t).2.1 = 0 then ([], 0, 0)
  else ((pieceM t).1 ++ (textM (t.drop (pieceM t).2.1)).1, (pieceM t).2.1 + (textM (t.drop (pieceM t).2.1)).2.1, (textM (t.drop (pieceM t).2.1)).2.2)
termination_by t.length
decreasing_by
  all_goals
    have h2 := List.length_pos_iff.2 h
    simp; omega
def ltW : List UInt8 → Nat
  | 60 :: 60 :: _ => 3
  | 60 :: _ => 2
  | _ => 1
def signW : List UInt8 → Nat
  | [] => 0
  | c :: r => (if c = 60 then ltW r else 1) + (if (c = 60 ∨ c = 61) ∧ r[(if c = 60 then ltW r else 1) - 1]? = some 42 then 1 else 0)
def spc : Bool → Bool → List UInt8 → List UInt8
  | _, _, [] => []
  | some_, owed, c :: r => if blk c then spc some_ some_ r else (if owed then [32] else []) ++ c :: spc true false r
def spaced (l : List UInt8) : List UInt8 := spc false false l
inductive One where
  | tok (kind : Nat) (text : List UInt8) (w : Nat)
  | bad (no k : Nat)
def find (c : UInt8) (l : List UInt8) : Nat := (l.takeWhile (· != c)).length
def oneM : List UInt8 → One
  | [] => .tok 0 [] 0
  | c :: r =>
    if c = 93 then .bad 25 0
    else if c = 42 then .bad 4 0
    else if c = 91 then (if find 93 r = r.length then .bad 25 0 else .tok 3 (spaced (r.take (find 93 r))) (find 93 r + 2))
    else if c = 38 ∨ c = 60 ∨ c = 61 ∨ c = 47 ∨ c = 45 then .tok 2 ((c :: r).take (signW (c :: r))) (signW (c :: r))
    else if (textM (c :: r)).2.2 ≠ 0 then .bad (textM (c :: r)).2.2 (textM (c :: r)).2.1 else .tok 1 (textM (c :: r)).1 (textM (c :: r)).2.1
def past (t : List UInt8) : List UInt8 :=
  match h : t.dropWhile blk with
  | [] => []
  | c :: r => if c = 35 then past (r.dropWhile (· != 10)) else c :: r
termination_by t.length
decreasing_by
  have h1 := (List.dropWhile_suffix (l := t) blk).length_le
  have h2 := (List.dropWhile_suffix (l := r) (· != 10)).length_le
  rw [h] at h1; simp at h1 h2 ⊢; omega
theorem past_eq (t : List UInt8) : past t = match t.dropWhile blk with
    | [] => []
    | c :: r => if c = 35 then past (r.dropWhile (· != 10)) else c :: r := by
  rw [past]
  split <;> rename_i h <;> simp [h]
theorem past_len (t : List UInt8) : (past t).length ≤ t.length := by
  suffices ∀ n (t : List UInt8), t.length ≤ n → (past t).length ≤ t.length from this _ t (Nat.le_refl _)
  intro n
  induction n with
  | zero =>
    intro t h
    have : t = [] := List.eq_nil_of_length_eq_zero (by omega)
    subst this
    rw [past_eq]; simp
  | succ n ih =>
    intro t h
    rw [past_eq]
    have h1 := (List.dropWhile_suffix (l := t) blk).length_le
    cases hd : t.dropWhile blk with
    | nil => simp
    | cons c r =>
      rw [hd] at h1
      simp only
      split
      · have h2 := (List.dropWhile_suffix (l := r) (· != 10)).length_le
        have := ih (r.dropWhile (· != 10)) (by simp at h1 h2 ⊢; omega)
        simp at h1 h2 ⊢; omega
      · exact h1
theorem past_head (t : List UInt8) : ∀ c r, past t = c :: r → blk c = false ∧ c ≠ 35 := by
  suffices ∀ n (t : List UInt8), t.length ≤ n → ∀ c r, past t = c :: r → blk c = false ∧ c ≠ 35 from this _ t (Nat.le_refl _)
  intro n
  induction n with
  | zero =>
    intro t h c r
    have : t = [] := List.eq_nil_of_length_eq_zero (by omega)
    subst this
    rw [past_eq]; simp
  | succ n ih =>
    intro t h c r
    rw [past_eq]
    have h1 := (List.dropWhile_suffix (l := t) blk).length_le
    cases hd : t.dropWhile blk with
    | nil => simp
    | cons c' r' =>
      rw [hd] at h1
      simp only
      split
      · have h2 := (List.dropWhile_suffix (l := r') (· != 10)).length_le
        exact ih (r'.dropWhile (· != 10)) (by simp at h1 h2 ⊢; omega) c r
      · intro e
        injection e with e1 e2
        subst e1
        refine ⟨?_, by assumption⟩
        have := List.head?_dropWhile_not blk t
        rw [hd] at this
        simpa using this
theorem quo_w : ∀ n (r : List UInt8), r.length ≤ n → ∀ x, quo r = some x → 1 ≤ x.2 ∧ x.2 ≤ r.length := by
  intro n
  induction n with
  | zero => intro r h x; have : r = [] := List.eq_nil_of_length_eq_zero (by omega); subst this; simp [quo]
  | succ n ih =>
    intro r h x
    match r with
    | [] => simp [quo]
    | [c] => simp only [quo]; split <;> simp; rintro rfl; simp
    | c :: d :: r =>
      simp only [quo]
      split
      · split
        · rw [Option.map_eq_some_iff]
          rintro ⟨y, hy, rfl⟩
          have := ih r (by simp at h; omega) y hy
          simp; omega
        · simp; rintro rfl; simp
      · rw [Option.map_eq_some_iff]
        rintro ⟨y, hy, rfl⟩
        have := ih (d :: r) (by simp at h ⊢; omega) y hy
        simp at this ⊢; omega
theorem digs_n : ∀ (m : Nat) (l : List UInt8) (v : Nat), (digs m l v).2 ≤ m ∧ (digs m l v).2 ≤ l.length := by
  intro m
  induction m with
  | zero => intro l v; simp [digs]
  | succ m ih =>
    intro l v
    cases l with
    | nil => simp [digs]
    | cons c r =>
      simp only [digs]
      split
      · simp
      · rename_i d _
        have := ih r (16 * v + d)
        simp; omega
theorem esc_w {r : List UInt8} {x : List UInt8 × Nat} (h : esc r = some x) : 2 ≤ x.2 ∧ x.2 ≤ r.length + 1 := by
  cases r with
  | nil => simp [esc] at h
  | cons c r =>
    simp only [esc] at h
    split at h
    · split at h
      · simp at h
      · simp only [Option.some.injEq] at h
        subst h
        have := digs_n 2 r 0
        simp; omega
    · split at h
      · cases r with
        | nil => simp at h
        | cons d q =>
          simp only at h
          split at h
          · simp at h
          · rename_i hn
            simp only [Option.some.injEq] at h
            subst h
            have h4 : q[(digs 6 q 0).2]? = some 125 := Decidable.byContradiction fun e => hn (.inr (.inr (.inl e)))
            have := (List.getElem?_eq_some_iff.1 h4).1
            simp; omega
      · simp only [Option.some.injEq] at h
        subst h
        have h1 := dw_pos (l := c :: r) (by simp)
        have h2 := dw_len (l := c :: r) (by simp)
        simp at h2 ⊢; omega
theorem pieceM_w {t : List UInt8} : (pieceM t).2.1 ≤ t.length := by
  cases t with
  | nil => simp [pieceM]
  | cons c r =>
    simp only [pieceM]
    split
    · split
      · rename_i x hx
        have := quo_w _ r (Nat.le_refl _) x hx
        simp; omega
      · simp
    · split
      · split
        · rename_i x hx
          have := esc_w hx
          simp; omega
        · simp
      · split
        · simp
        · exact dw_len (by simp)
theorem textM_w (t : List UInt8) : (textM t).2.1 ≤ t.length := by
  suffices ∀ n (t : List UInt8), t.length ≤ n → (textM t).2.1 ≤ t.length from this _ t (Nat.le_refl _)
  intro n
  induction n with
  | zero => intro t h; have : t = [] := List.eq_nil_of_length_eq_zero (by omega); subst this; rw [textM]; simp
  | succ n ih =>
    intro t h
    rw [textM]
    split
    · simp
    · split
      · simp
      · split
        · simp
        · have h2 := ih (t.drop (pieceM t).2.1) (by rename_i h1 h2 h3; have := List.length_pos_iff.2 h1; simp; omega)
          have := pieceM_w (t := t)
          simp at h2 ⊢; omega
theorem signW_w (c : UInt8) (r : List UInt8) : 1 ≤ signW (c :: r) ∧ signW (c :: r) ≤ (c :: r).length := by
  have hl : 1 ≤ ltW r ∧ ltW r ≤ r.length + 1 := by
    unfold ltW
    split <;> simp
  simp only [signW, List.length_cons]
  have h0 : 1 ≤ (if c = 60 then ltW r else 1) ∧ (if c = 60 then ltW r else 1) ≤ r.length + 1 := by split <;> omega
  generalize (if c = 60 then ltW r else 1) = n at h0 ⊢
  split
  · rename_i h
    have := (List.getElem?_eq_some_iff.1 h.2).1
    omega
  · omega
theorem pieceM_pos {c : UInt8} {r : List UInt8} (hb : blk c = false) (hs : sgn c = true → c = 39 ∨ c = 92) (he : (pieceM (c :: r)).2.2 = 0) : 1 ≤ (pieceM (c :: r)).2.1 := by
  simp only [pieceM] at he ⊢
  by_cases h1 : c = 39
  · rw [if_pos h1] at he ⊢
    split at he
    · rename_i x hx
      simp [hx]
    · simp at he
  · rw [if_neg h1] at he ⊢
    by_cases h2 : c = 92
    · rw [if_pos h2] at he ⊢
      split at he
      · rename_i x hx
        have := esc_w hx
        simp only [hx]; omega
      · simp at he
    · rw [if_neg h2] at he ⊢
      have : (blk c || sgn c) = false := by
        rw [hb, Bool.false_or]
        cases h : sgn c with
        | false => rfl
        | true => rcases hs h with e | e
                  · exact absurd e h1
                  · exact absurd e h2
      rw [this]
      exact dw_pos (by simp)
theorem textM_pos {c : UInt8} {r : List UInt8} (hb : blk c = false) (hs : sgn c = true → c = 39 ∨ c = 92) (he : (textM (c :: r)).2.2 = 0) : 1 ≤ (textM (c :: r)).2.1 ∧ (textM (c :: r)).2.1 ≤ (c :: r).length := by
  refine ⟨?_, textM_w _⟩
  rw [textM] at he ⊢
  rw [dif_neg (by simp)] at he ⊢
  by_cases h1 : (pieceM (c :: r)).2.2 ≠ 0
  · rw [if_pos h1] at he
    exact absurd he h1
  · rw [if_neg h1]
    have := pieceM_pos hb hs (by simpa using h1)
    rw [dif_neg (by omega)]
    simp only; omega
theorem oneM_w {t : List UInt8} (hne : t ≠ []) (hb : ∀ c r, t = c :: r → blk c = false ∧ c ≠ 35) {k : Nat} {x : List UInt8} {w : Nat} (h : oneM t = .tok k x w) : 1 ≤ w ∧ w ≤ t.length := by
  cases t with
  | nil => exact absurd rfl hne
  | cons c r =>
    obtain ⟨hb1, hb2⟩ := hb c r rfl
    simp only [oneM] at h
    split at h
    · cases h
    split at h
    · cases h
    split at h
    · split at h
      · cases h
      · injection h with _ _ h
        have h1 : find 93 r ≤ r.length := (List.takeWhile_prefix _).length_le
        have : find 93 r ≠ r.length := by assumption
        simp; omega
    split at h
    · injection h with _ _ h
      subst h
      exact signW_w c r
    · split at h
      · cases h
      · rename_i h1 h2 h3 h4 h5
        injection h with _ _ h
        subst h
        have h6 : (textM (c :: r)).2.2 = 0 := by simpa using h5
        refine textM_pos hb1 (fun hs => ?_) h6
        simp only [not_or] at h4
        obtain ⟨n1, n2, n3, n4, n5⟩ := h4
        simpa [sgn, h1, h2, h3, hb2, n1, n2, n3, n4, n5] using hs
end Go.Proofs.YtekoeobfddfgpaaGreatDoor.M
set_option linter.unusedVariables false
set_option linter.unusedSimpArgs false
set_option maxRecDepth 100000
namespace Go.Proofs.YtekoeobfddfgpaaGreatDoor.M
open Go Go.Lib
theorem Ch.at_ {t : List UInt8} {k : Nat} {c : UInt8} (h : t[k]? = some c) (hc : c.toNat < 128) : Ch t (t.drop (k + 1)) := by
  obtain ⟨hk, he⟩ := List.getElem?_eq_some_iff.1 h
  have e : t = t.take k ++ c :: t.drop (k + 1) := by
    rw [← he, List.getElem_cons_drop, List.take_append_drop]
  have := Ch.behind (t.take k) (t.drop (k + 1)) hc
  rwa [← e] at this
theorem Ch.zero (t : List UInt8) : Ch t (t.drop 0) := Ch.refl t
theorem quo_last : ∀ n (r : List UInt8), r.length ≤ n → ∀ x, quo r = some x → r[x.2 - 1]? = some 39 := by
  intro n
  induction n with
  | zero => intro r h x; have : r = [] := List.eq_nil_of_length_eq_zero (by omega); subst this; simp [quo]
  | succ n ih =>
    intro r h x
    match r with
    | [] => simp [quo]
    | [c] => simp only [quo]; split <;> simp; rintro rfl; simpa using by assumption
    | c :: d :: r =>
      simp only [quo]
      split
      · rename_i hc
        split
        · rw [Option.map_eq_some_iff]
          rintro ⟨y, hy, rfl⟩
          have := ih r (by simp at h; omega) y hy
          have h1 := (quo_w _ r (Nat.le_refl _) y hy).1
          show (c :: d :: r)[y.2 + 2 - 1]? = some 39
          rw [show y.2 + 2 - 1 = (y.2 - 1) + 1 + 1 by omega, List.getElem?_cons_succ, List.getElem?_cons_succ]
          exact this
        · simp only [Option.some.injEq]
          rintro rfl
          simpa using hc
      · rw [Option.map_eq_some_iff]
        rintro ⟨y, hy, rfl⟩
        have := ih (d :: r) (by simp at h ⊢; omega) y hy
        have h1 := (quo_w _ (d :: r) (Nat.le_refl _) y hy).1
        show (c :: d :: r)[y.2 + 1 - 1]? = some 39
        rw [show y.2 + 1 - 1 = (y.2 - 1) + 1 by omega, List.getElem?_cons_succ]
        exact this
theorem hexv_ascii : ∀ c : UInt8, (hexv c).isSome = true → c.toNat < 128 := u8_all (by decide +kernel)
theorem digs_hex : ∀ (m : Nat) (l : List UInt8) (v i : Nat), i < (digs m l v).2 → ∃ c, l[i]? = some c ∧ (hexv c).isSome = true := by
  intro m
  induction m with
  | zero => intro l v i h; simp [digs] at h
  | succ m ih =>
    intro l v i h
    cases l with
    | nil => simp [digs] at h
    | cons c r =>
      simp only [digs] at h
      split at h
      · simp at h
      · rename_i d hd
        cases i with
        | zero => exact ⟨c, rfl, by rw [hd]; rfl⟩
        | succ i =>
          obtain ⟨c', h1, h2⟩ := ih r (16 * v + d) i (by simp at h; omega)
          exact ⟨c', by rw [List.getElem?_cons_succ]; exact h1, h2⟩
theorem esc_ch {r : List UInt8} {x : List UInt8 × Nat} (h : esc r = some x) : Ch (92 :: r) ((92 :: r).drop x.2) := by
  cases r with
  | nil => simp [esc] at h
  | cons c r =>
    simp only [esc] at h
    split at h
    · split at h
      · simp at h
      · rename_i hn
        simp only [Option.some.injEq] at h
        subst h
        obtain ⟨d, h1, h2⟩ := digs_hex 2 r 0 1 (by omega)
        refine Ch.at_ (k := 3) (c := d) ?_ (hexv_ascii d h2)
        show (92 :: c :: r)[3]? = some d
        rw [List.getElem?_cons_succ, List.getElem?_cons_succ]
        exact h1
    · split at h
      · cases r with
        | nil => simp at h
        | cons d q =>
          simp only at h
          split at h
          · simp at h
          · rename_i hn
            simp only [Option.some.injEq] at h
            subst h
            have h4 : q[(digs 6 q 0).2]? = some 125 := Decidable.byContradiction fun e => hn (.inr (.inr (.inl e)))
            refine Ch.at_ (k := (digs 6 q 0).2 + 3) (c := 125) ?_ (by decide)
            rw [List.getElem?_cons_succ, List.getElem?_cons_succ, List.getElem?_cons_succ]
            exact h4
      · simp only [Option.some.injEq] at h
        subst h
        have := (Ch.ascii1 (c := 92) (c :: r) (by decide)).trans (Ch.unit (l := c :: r) (by simp))
        show Ch (92 :: c :: r) ((92 :: c :: r).drop (1 + dw (c :: r)))
        rw [Nat.add_comm, List.drop_succ_cons]
        exact this
theorem pieceM_ch (t : List UInt8) : Ch t (t.drop (pieceM t).2.1) := by
  cases t with
  | nil => exact Ch.refl _
  | cons c r =>
    simp only [pieceM]
    split
    · split
      · rename_i x hx
        refine Ch.at_ (k := x.2) (c := 39) ?_ (by decide)
        have h1 := (quo_w _ r (Nat.le_refl _) x hx).1
        rw [show x.2 = (x.2 - 1) + 1 by omega, List.getElem?_cons_succ]
        exact quo_last _ r (Nat.le_refl _) x hx
      · exact Ch.refl _
    · split
      · rename_i hc
        split
        · rename_i x hx
          rw [hc]
          exact esc_ch hx
        · exact Ch.refl _
      · split
        · exact Ch.refl _
        · exact Ch.unit (by simp)
theorem textM_ch (t : List UInt8) : Ch t (t.drop (textM t).2.1) := by
  suffices ∀ n (t : List UInt8), t.length ≤ n → Ch t (t.drop (textM t).2.1) from this _ t (Nat.le_refl _)
  intro n
  induction n with
  | zero => intro t h; have : t = [] := List.eq_nil_of_length_eq_zero (by omega); subst this; rw [textM]; exact Ch.refl _
  | succ n ih =>
    intro t h
    rw [textM]
    split
    · exact Ch.refl _
    · split
      · exact Ch.refl _
      · split
        · exact Ch.refl _
        · rename_i h1 h2 h3
          have h4 := ih (t.drop (pieceM t).2.1) (by have := List.length_pos_iff.2 h1; simp; omega)
          have := (pieceM_ch t).trans h4
          rw [List.drop_drop] at this
          exact this
theorem signW_last (c : UInt8) (r : List UInt8) (hc : c.toNat < 128) : ∃ d : UInt8, (c :: r)[signW (c :: r) - 1]? = some d ∧ d.toNat < 128 := by
  have h0 : ∃ d : UInt8, (c :: r)[(if c = 60 then ltW r else 1) - 1]? = some d ∧ d.toNat < 128 := by
    split
    · rename_i h
      unfold ltW
      split
      · exact ⟨60, rfl, by decide⟩
      · exact ⟨60, rfl, by decide⟩
      · exact ⟨c, rfl, hc⟩
    · exact ⟨c, rfl, hc⟩
  have h1 : 1 ≤ (if c = 60 then ltW r else 1) := by
    split
    · unfold ltW; split <;> omega
    · omega
  simp only [signW]
  generalize (if c = 60 then ltW r else 1) = n at h0 h1 ⊢
  split
  · rename_i h
    refine ⟨42, ?_, by decide⟩
    rw [show n + 1 - 1 = (n - 1) + 1 by omega, List.getElem?_cons_succ]
    exact h.2
  · exact h0
theorem find_at {c : UInt8} : ∀ {l : List UInt8}, find c l ≠ l.length → l[find c l]? = some c := by
  intro l
  induction l with
  | nil => intro h; exact absurd rfl h
  | cons a l ih =>
    intro h
    unfold find at h ⊢
    rw [List.takeWhile_cons] at h ⊢
    by_cases e : a = c
    · subst e; simp
    · have : (a != c) = true := by simpa using e
      rw [if_pos this] at h ⊢
      rw [List.length_cons, List.getElem?_cons_succ]
      exact ih (by unfold find; simpa using h)
theorem oneM_ch {t : List UInt8} : (∀ k x w, oneM t = .tok k x w → Ch t (t.drop w)) ∧ (∀ no k, oneM t = .bad no k → Ch t (t.drop k) ∧ k ≤ t.length) := by
  cases t with
  | nil =>
    simp only [oneM]
    exact ⟨fun k x w h => (by injection h with _ _ h; subst h; exact Ch.refl _), fun no k h => (by cases h)⟩
  | cons c r =>
    simp only [oneM]
    split
    · exact ⟨fun k x w h => (by cases h), fun no k h => by injection h with _ h; subst h; exact ⟨Ch.refl _, Nat.zero_le _⟩⟩
    split
    · exact ⟨fun k x w h => (by cases h), fun no k h => by injection h with _ h; subst h; exact ⟨Ch.refl _, Nat.zero_le _⟩⟩
    split
    · split
      · exact ⟨fun k x w h => (by cases h), fun no k h => by injection h with _ h; subst h; exact ⟨Ch.refl _, Nat.zero_le _⟩⟩
      · rename_i hf
        refine ⟨fun k x w h => ?_, fun no k h => by cases h⟩
        injection h with _ _ h
        subst h
        refine Ch.at_ (k := find 93 r + 1) (c := 93) ?_ (by decide)
        rw [List.getElem?_cons_succ]
        exact find_at hf
    split
    · rename_i hs
      refine ⟨fun k x w h => ?_, fun no k h => by cases h⟩
      injection h with _ _ h
      subst h
      have hc : c.toNat < 128 := by rcases hs with rfl | rfl | rfl | rfl | rfl <;> decide
      obtain ⟨d, h1, h2⟩ := signW_last c r hc
      have := Ch.at_ h1 h2
      have h3 := (signW_w c r).1
      rwa [Nat.sub_add_cancel h3] at this
    · split
      · refine ⟨fun k x w h => (by cases h), fun no k h => ?_⟩
        injection h with _ h; subst h
        exact ⟨textM_ch _, textM_w _⟩
      · refine ⟨fun k x w h => ?_, fun no k h => by cases h⟩
        injection h with _ _ h; subst h
        exact textM_ch _
theorem dropWhile_ch {p : UInt8 → Bool} (hp : ∀ c, p c = true → c.toNat < 128) : ∀ t : List UInt8, Ch t (t.dropWhile p) := by
  intro t
  induction t with
  | nil => exact Ch.refl _
  | cons c r ih =>
    rw [List.dropWhile_cons]
    split
    · rename_i h
      exact (Ch.ascii1 r (hp c h)).trans ih
    · exact Ch.refl _
theorem line_ch (t : List UInt8) : Ch t (t.dropWhile (· != 10)) := by
  cases h : t.dropWhile (· != 10) with
  | nil => exact Ch.nil _
  | cons c r =>
    have hc : c = 10 := by
      have := List.head?_dropWhile_not (· != (10 : UInt8)) t
      rw [h] at this
      simpa using this
    have e := (List.takeWhile_append_dropWhile (p := (· != (10 : UInt8))) (l := t)).symm
    rw [h] at e
    rw [e]
    exact Ch.ascii _ _ _ (Nat.le_refl _) (by rw [hc]; show (10 : UInt8).toNat < 128; decide) (by simp)
theorem past_ch (t : List UInt8) : Ch t (past t) := by
  suffices ∀ n (t : List UInt8), t.length ≤ n → Ch t (past t) from this _ t (Nat.le_refl _)
  intro n
  induction n with
  | zero =>
    intro t h
    have : t = [] := List.eq_nil_of_length_eq_zero (by omega)
    subst this
    rw [past_eq]; exact Ch.refl _
  | succ n ih =>
    intro t h
    rw [past_eq]
    have h1 := (List.dropWhile_suffix (l := t) blk).length_le
    have h2 := dropWhile_ch blk_ascii t
    cases hd : t.dropWhile blk with
    | nil => exact Ch.nil _
    | cons c r =>
      rw [hd] at h1 h2
      simp only
      split
      · rename_i hc
        have h3 := (List.dropWhile_suffix (l := r) (· != 10)).length_le
        exact h2.trans ((Ch.ascii1 r (by rw [hc]; decide)).trans ((line_ch r).trans (ih (r.dropWhile (· != 10)) (by simp at h1 h3 ⊢; omega))))
      · exact h2
def scanM (t : List UInt8) : List (Nat × List UInt8 × List UInt8) × Option (Nat × List UInt8) :=
  if hp : past t = [] then ([(0, [], [])], none)
  else match ho : oneM (past t) with
    | .bad no k => ([], some (no, (past t).drop k))
    | .tok kd x w => ((kd, x, past t) :: (scanM ((past t).drop w)).1, (scanM ((past t).drop w)).2)
termination_by t.length
decreasing_by
  all_goals
    have h1 := oneM_w hp (past_head t) ho
    have h2 := past_len t
    simp; omega
theorem scanM_end {t : List UInt8} (h : past t = []) : scanM t = ([(0, [], [])], none) := by rw [scanM]; simp [h]
theorem scanM_bad {t : List UInt8} {no k : Nat} (h : past t ≠ []) (ho : oneM (past t) = .bad no k) : scanM t = ([], some (no, (past t).drop k)) := by
  rw [scanM, dif_neg h]
  split
  · rename_i h2
    rw [ho] at h2; injection h2 with e1 e2; subst e1; subst e2; rfl
  · rename_i h2
    rw [ho] at h2; cases h2
theorem scanM_tok {t : List UInt8} {kd : Nat} {x : List UInt8} {w : Nat} (h : past t ≠ []) (ho : oneM (past t) = .tok kd x w) : scanM t = ((kd, x, past t) :: (scanM ((past t).drop w)).1, (scanM ((past t).drop w)).2) := by
  rw [scanM, dif_neg h]
  split
  · rename_i h2
    rw [ho] at h2; cases h2
  · rename_i h2
    rw [ho] at h2; injection h2 with e1 e2 e3; subst e1; subst e2; subst e3; rfl
theorem scanM_past {t t' : List UInt8} (h : past t = past t') : scanM t = scanM t' := by
  by_cases hp : past t = []
  · rw [scanM_end hp, scanM_end (by rw [← h]; exact hp)]
  · have hp' : past t' ≠ [] := by rw [← h]; exact hp
    cases ho : oneM (past t) with
    | bad no k => rw [scanM_bad hp ho, scanM_bad hp' (by rw [← h]; exact ho), h]
    | tok kd x w => rw [scanM_tok hp ho, scanM_tok hp' (by rw [← h]; exact ho), h]
def place (l u : List UInt8) : Nat × Nat := plB (1, 1) (l.take (l.length - u.length))
theorem place_start (l : List UInt8) : place l l = (1, 1) := by unfold place; rw [Nat.sub_self, List.take_zero, plB_nil]
theorem place_step {l u : List UInt8} (h : Ch l u) {n : Nat} (hn : n ≤ u.length) (k : Ch u (u.drop n)) : place l (u.drop n) = skipP (place l u) (u.take n) := by
  rw [← plB_skip]
  obtain ⟨q1, e1⟩ := h
  obtain ⟨q2, e2⟩ := k
  have d1 := Ch.drop ⟨q1, e1⟩
  have hl : l.length - (u.drop n).length = l.length - u.length + n := by simp; omega
  have a1 := plc_take q1 l (l.length - u.length) (1, 1) (by omega) (by rw [← d1.2]; exact e1)
  have e3 : l.drop (l.length - u.length + n) = u.drop n := by rw [← List.drop_drop, ← d1.2]
  have a2 := plc_take (q1 ++ q2) l (l.length - u.length + n) (1, 1) (by omega) (by rw [e3, e1, e2, List.append_assoc])
  have a3 := plc_take q2 u n (place l u) hn e2
  unfold place
  rw [hl, ← a2, plc_app, a1]
  exact a3
end Go.Proofs.YtekoeobfddfgpaaGreatDoor.M
set_option linter.unusedVariables false
set_option linter.unusedSimpArgs false
set_option maxRecDepth 100000
namespace Go.Proofs.YtekoeobfddfgpaaGreatDoor.M
open Go Go.Lib
def Stop (z : List UInt8) : Prop := z = [] ∨ ∃ c r, z = c :: r ∧ blk c = true
theorem Stop.b0 {z : List UInt8} (h : Stop z) : b0 z < 128 := by
  rcases h with rfl | ⟨c, r, rfl, hc⟩
  · decide
  · exact blk_ascii c hc
theorem take_app {a z : List UInt8} {k : Nat} (h : k ≤ a.length) : (a ++ z).take k = a.take k := List.take_append_of_le_length h
theorem dec_cut {t z : List UInt8} (h : t ≠ []) {n : Nat} (hn : dw t ≤ n) (hz : Stop z) : dc (t.take n ++ z) = dc t ∧ dw (t.take n ++ z) = dw t := by
  have hp := dw_pos h
  have hl := dw_len h
  have hd := dec_take h hn
  have hne : t.take n ≠ [] := by
    intro e
    have := congrArg List.length e
    have hl : 0 < t.length := List.length_pos_iff.2 h
    rw [List.length_take, List.length_nil] at this
    omega
  have hX : t.take n ++ z ≠ [] := by simp [hne]
  cases hi : ill t with
  | false =>
    have e1 := take_enc h hi
    have hw : dw t = (enc (dc t)).length := by
      have h3 := List.take_append_drop (dw t) t
      rw [e1] at h3
      have := dw_enc (okc_dc h) (t.drop (dw t))
      rw [h3] at this
      exact this
    have e2 : t.take n ++ z = enc (dc t) ++ ((t.take n ++ z).drop (dw t)) := by
      have h4 := (List.take_append_drop (dw t) (t.take n ++ z)).symm
      have h5 : (t.take n ++ z).take (dw t) = enc (dc t) := by
        rw [take_app (by rw [List.length_take]; omega), List.take_take, Nat.min_eq_left hn, e1]
      rw [h5] at h4
      exact h4
    rw [e2, dc_enc (okc_dc h), dw_enc (okc_dc h)]
    exact ⟨rfl, hw.symm⟩
  | true =>
    have hdi : dc t = 65533 ∧ dw t = 1 := by simpa [ill] using hi
    have hX1 : dw (t.take n ++ z) ≤ (t.take n).length := by
      rcases Nat.lt_or_ge (t.take n).length (dw (t.take n ++ z)) with hlt | hge
      · exfalso
        have hb := unit_bytes hX (t.take n).length (List.length_pos_iff.2 hne) hlt
        have hz0 := hz.b0
        unfold bt at hb
        rw [List.getD_eq_getElem?_getD, List.getElem?_append_right (Nat.le_refl _), Nat.sub_self, ← List.getD_eq_getElem?_getD] at hb
        have : (z.getD 0 0).toNat < 128 := hz0
        omega
      · exact hge
    cases hj : ill (t.take n ++ z) with
    | true =>
      have hdj : dc (t.take n ++ z) = 65533 ∧ dw (t.take n ++ z) = 1 := by simpa [ill] using hj
      rw [hdi.1, hdi.2, hdj.1, hdj.2]
      exact ⟨rfl, rfl⟩
    | false =>
      exfalso
      have e1 := take_enc hX hj
      rw [take_app hX1, List.take_take, Nat.min_eq_left (by have := hX1; rw [List.length_take] at this; omega)] at e1
      have e2 : t = enc (dc (t.take n ++ z)) ++ t.drop (dw (t.take n ++ z)) := by rw [← e1, List.take_append_drop]
      have k1 := dc_enc (okc_dc hX) (t.drop (dw (t.take n ++ z)))
      have k2 := dw_enc (okc_dc hX) (t.drop (dw (t.take n ++ z)))
      rw [← e2] at k1 k2
      rw [hdi.1] at k1
      rw [hdi.2, ← k1] at k2
      have e3 : (enc 65533).length = 3 := by decide
      rw [e3] at k2
      omega
theorem quo_cut : ∀ m (r : List UInt8), r.length ≤ m → ∀ x n z, quo r = some x → x.2 ≤ n → Stop z → quo (r.take n ++ z) = some x := by
  intro m
  induction m with
  | zero => intro r h x n z; have : r = [] := List.eq_nil_of_length_eq_zero (by omega); subst this; simp [quo]
  | succ m ih =>
    intro r h x n z hq hn hz
    have z39 : ∀ d r', z = d :: r' → d ≠ 39 := by
      intro d r' e
      rcases hz with rfl | ⟨c, r2, rfl, hc⟩
      · cases e
      · injection e with e1 _; subst e1
        intro e; subst e; simp [blk] at hc
    match r, hq with
    | [], hq => simp [quo] at hq
    | [c], hq =>
      simp only [quo] at hq
      split at hq
      · rename_i hc
        simp only [Option.some.injEq] at hq
        subst hq
        obtain ⟨n, rfl⟩ : ∃ k, n = k + 1 := ⟨n - 1, by simp at hn; omega⟩
        subst hc
        cases z with
        | nil => simp [quo]
        | cons d r' => simp [quo, z39 d r' rfl]
      · simp at hq
    | c :: d :: r, hq =>
      simp only [quo] at hq
      split at hq
      · rename_i hc
        subst hc
        split at hq
        · rename_i hd
          subst hd
          rw [Option.map_eq_some_iff] at hq
          obtain ⟨y, hy, rfl⟩ := hq
          obtain ⟨n, rfl⟩ : ∃ k, n = k + 2 := ⟨n - 2, by simp at hn; omega⟩
          have := ih r (by simp at h; omega) y n z hy (by simp at hn; omega) hz
          simp [quo, this]
        · rename_i hd
          simp only [Option.some.injEq] at hq
          subst hq
          obtain ⟨n, rfl⟩ : ∃ k, n = k + 1 := ⟨n - 1, by simp at hn; omega⟩
          cases n with
          | zero =>
            cases z with
            | nil => simp [quo]
            | cons d' r' => simp [quo, z39 d' r' rfl]
          | succ n => simp [quo, hd]
      · rename_i hc
        rw [Option.map_eq_some_iff] at hq
        obtain ⟨y, hy, rfl⟩ := hq
        obtain ⟨n, rfl⟩ : ∃ k, n = k + 1 := ⟨n - 1, by simp at hn; omega⟩
        have h1 := (quo_w _ (d :: r) (Nat.le_refl _) y hy).1
        have := ih (d :: r) (by simp at h ⊢; omega) y n z hy (by simp at hn; omega) hz
        obtain ⟨n, rfl⟩ : ∃ k, n = k + 1 := ⟨n - 1, by simp at hn; omega⟩
        rw [List.take_succ_cons, List.take_succ_cons, List.cons_append, List.cons_append, quo, if_neg hc]
        rw [List.take_succ_cons, List.cons_append] at this
        rw [this]; rfl
theorem digs_cut : ∀ (m : Nat) (l : List UInt8) (v n : Nat) (z : List UInt8), (digs m l v).2 < n → n ≤ l.length → digs m (l.take n ++ z) v = digs m l v := by
  intro m
  induction m with
  | zero => intro l v n z h hl; simp [digs]
  | succ m ih =>
    intro l v n z h hl
    cases l with
    | nil => simp at hl; omega
    | cons c r =>
      obtain ⟨n, rfl⟩ : ∃ k, n = k + 1 := ⟨n - 1, by omega⟩
      rw [List.take_succ_cons, List.cons_append]
      simp only [digs] at h ⊢
      cases hx : hexv c with
      | none => rfl
      | some d =>
        rw [hx] at h
        simp only at h ⊢
        rw [ih r (16 * v + d) n z (by omega) (by simp at hl; omega)]
theorem digs_full : ∀ (m : Nat) (l : List UInt8) (v n : Nat) (z : List UInt8), (digs m l v).2 = m → m ≤ n → digs m (l.take n ++ z) v = digs m l v := by
  intro m
  induction m with
  | zero => intro l v n z h hl; simp [digs]
  | succ m ih =>
    intro l v n z h hl
    cases l with
    | nil => simp [digs] at h
    | cons c r =>
      obtain ⟨n, rfl⟩ : ∃ k, n = k + 1 := ⟨n - 1, by omega⟩
      rw [List.take_succ_cons, List.cons_append]
      simp only [digs] at h ⊢
      cases hx : hexv c with
      | none => rfl
      | some d =>
        rw [hx] at h
        simp only at h ⊢
        rw [ih r (16 * v + d) n z (by omega) (by omega)]
theorem esc_cut {r : List UInt8} {x : List UInt8 × Nat} (h : esc r = some x) {n : Nat} {z : List UInt8} (hn : x.2 ≤ n + 1) (hl : n ≤ r.length) (hz : Stop z) : esc (r.take n ++ z) = some x := by
  have hw := esc_w h
  cases r with
  | nil => simp [esc] at h
  | cons c r =>
    obtain ⟨n, rfl⟩ : ∃ k, n = k + 1 := ⟨n - 1, by omega⟩
    rw [List.take_succ_cons, List.cons_append]
    simp only [esc] at h ⊢
    split at h
    · rename_i hc
      rw [if_pos hc]
      split at h
      · simp at h
      · rename_i hd
        have h2 := (digs_n 2 r 0).1
        have h3 : (digs 2 r 0).2 = 2 := by omega
        simp only [Option.some.injEq] at h
        subst h
        rw [digs_full 2 r 0 n z h3 (by simp at hn; omega), if_neg hd]
    · rename_i hc
      rw [if_neg hc]
      split at h
      · rename_i hu
        rw [if_pos hu]
        cases r with
        | nil => simp at h
        | cons d q =>
          simp only at h
          split at h
          · simp at h
          · rename_i hne
            simp only [Option.some.injEq] at h
            have h4 : q[(digs 6 q 0).2]? = some 125 := Decidable.byContradiction fun e => hne (.inr (.inr (.inl e)))
            have h5 := (List.getElem?_eq_some_iff.1 h4).1
            subst h
            obtain ⟨n, rfl⟩ : ∃ k, n = k + 1 := ⟨n - 1, by simp at hn; omega⟩
            have h6 := digs_cut 6 q 0 n z (by simp at hn; omega) (by simp at hl; omega)
            have h7 : (q.take n ++ z)[(digs 6 q 0).2]? = some 125 := by
              rw [List.getElem?_append_left (by rw [List.length_take]; simp at hn hl; omega), List.getElem?_take, if_pos (by simp at hn; omega)]
              exact h4
            rw [List.take_succ_cons, List.cons_append]
            simp only
            rw [h6, h7]
            rw [h4] at hne
            rw [if_neg hne]
      · rename_i hu
        rw [if_neg hu]
        simp only [Option.some.injEq] at h
        subst h
        have hd := dec_cut (t := c :: r) (by simp) (n := n + 1) (by simp at hn; omega) hz
        rw [List.take_succ_cons, List.cons_append] at hd
        rw [hd.2]
        have : (c :: (r.take n ++ z)).take (dw (c :: r)) = (c :: r).take (dw (c :: r)) := by
          have e : c :: (r.take n ++ z) = (c :: r).take (n + 1) ++ z := by rw [List.take_succ_cons, List.cons_append]
          rw [e, take_app (by have := dw_len (l := c :: r) (by simp); rw [List.length_take]; simp at hn hl ⊢; omega), List.take_take, Nat.min_eq_left (by simp at hn; omega)]
        rw [this]
theorem pieceM_cut {t : List UInt8} (he : (pieceM t).2.2 = 0) {n : Nat} {z : List UInt8} (h1 : 1 ≤ (pieceM t).2.1) (hn : (pieceM t).2.1 ≤ n) (hl : n ≤ t.length) (hz : Stop z) : pieceM (t.take n ++ z) = pieceM t := by
  cases t with
  | nil => simp [pieceM] at h1
  | cons c r =>
    obtain ⟨n, rfl⟩ : ∃ k, n = k + 1 := ⟨n - 1, by omega⟩
    rw [List.take_succ_cons, List.cons_append]
    simp only [pieceM] at he h1 hn ⊢
    by_cases h39 : c = 39
    · rw [if_pos h39] at he h1 hn ⊢
      rw [if_pos h39]
      cases hq : quo r with
      | none => rw [hq] at he; simp at he
      | some x =>
        rw [hq] at hn
        rw [quo_cut _ r (Nat.le_refl _) x n z hq (by simp at hn; omega) hz]
    · rw [if_neg h39] at he h1 hn ⊢
      rw [if_neg h39]
      by_cases h92 : c = 92
      · rw [if_pos h92] at he h1 hn ⊢
        rw [if_pos h92]
        cases hq : esc r with
        | none => rw [hq] at he; simp at he
        | some x =>
          rw [hq] at hn
          rw [esc_cut hq (by simp at hn; omega) (by simp at hl; omega) hz]
      · rw [if_neg h92] at he h1 hn ⊢
        rw [if_neg h92]
        cases hb : (blk c || sgn c) with
        | true => rw [hb] at h1; simp at h1
        | false =>
          rw [hb] at hn
          simp only [Bool.false_eq_true, if_false] at hn ⊢
          have hd := dec_cut (t := c :: r) (by simp) (n := n + 1) hn hz
          have e : c :: (r.take n ++ z) = (c :: r).take (n + 1) ++ z := by rw [List.take_succ_cons, List.cons_append]
          rw [e, hd.2, take_app (by have := dw_len (l := c :: r) (by simp); rw [List.length_take]; omega), List.take_take, Nat.min_eq_left hn]
theorem pieceM_stop {z : List UInt8} (hz : Stop z) : pieceM z = ([], 0, 0) := by
  rcases hz with rfl | ⟨c, r, rfl, hc⟩
  · rfl
  · have h39 : ¬ c = 39 := by intro e; subst e; simp [blk] at hc
    have h92 : ¬ c = 92 := by intro e; subst e; simp [blk] at hc
    simp [pieceM, h39, h92, hc]
theorem textM_stop {z : List UInt8} (hz : Stop z) : textM z = ([], 0, 0) := by
  rw [textM]
  have := pieceM_stop hz
  split
  · rfl
  · simp [this]
end Go.Proofs.YtekoeobfddfgpaaGreatDoor.M
set_option linter.unusedVariables false
set_option linter.unusedSimpArgs false
set_option maxRecDepth 100000
namespace Go.Proofs.YtekoeobfddfgpaaGreatDoor.M
open Go Go.Lib
theorem oneM_sign {t : List UInt8} {k : Nat} {x : List UInt8} {w : Nat} (h : oneM t = .tok k x w) (hk : k = 2) : x = t.take w := by
  subst hk
  cases t with
  | nil => simp only [oneM] at h; injection h with h1 _ _; cases h1
  | cons c r =>
    simp only [oneM] at h
    split at h
    · cases h
    split at h
    · cases h
    split at h
    · split at h
      · cases h
      · injection h with h1 _ _; cases h1
    split at h
    · injection h with _ h2 h3; subst h3; exact h2.symm
    · split at h
      · cases h
      · injection h with h1 _ _; cases h1
structure Stand (t : List UInt8) (xs : List (Nat × List UInt8 × List UInt8)) : Prop where
  ne : xs ≠ []
  last : xs.getLast? = some (0, [], [])
  le : ∀ (j : Nat) (y : Nat × List UInt8 × List UInt8), xs[j]? = some y → y.2.2.length ≤ t.length ∧ y.2.2 = t.drop (t.length - y.2.2.length)
  sign : ∀ (j : Nat) (y : Nat × List UInt8 × List UInt8), xs[j]? = some y → y.1 = 2 → y.2.1.length ≤ y.2.2.length ∧ y.2.1 = y.2.2.take y.2.1.length
  lt : ∀ (j : Nat) (y y' : Nat × List UInt8 × List UInt8), xs[j]? = some y → xs[j + 1]? = some y' → y'.2.2.length < y.2.2.length
theorem Ch.suf {a b : List UInt8} (h : Ch a b) : b.length ≤ a.length ∧ b = a.drop (a.length - b.length) := h.drop
theorem stand_ : ∀ n (t : List UInt8), t.length ≤ n → (scanM t).2 = none → Stand t (scanM t).1 := by
  intro n
  induction n with
  | zero =>
    intro t h _
    obtain rfl : t = [] := List.eq_nil_of_length_eq_zero (by omega)
    have : past [] = [] := by rw [past_eq]; rfl
    rw [scanM_end this]
    exact ⟨by simp, rfl, fun j y hj => by cases j <;> simp at hj; subst hj; simp, fun j y hj => by cases j <;> simp at hj; subst hj; simp, fun j y y' hj hj' => by simp at hj'⟩
  | succ n ih =>
    intro t h hn
    have hpc := past_ch t
    by_cases hp : past t = []
    · rw [scanM_end hp]
      exact ⟨by simp, rfl, fun j y hj => by cases j <;> simp at hj; subst hj; simp, fun j y hj => by cases j <;> simp at hj; subst hj; simp, fun j y y' hj hj' => by simp at hj'⟩
    · cases ho : oneM (past t) with
      | bad no k => rw [scanM_bad hp ho] at hn; cases hn
      | tok kd x w =>
        have hw := oneM_w hp (past_head t) ho
        have hpl := past_len t
        rw [scanM_tok hp ho] at hn ⊢
        have hS := ih ((past t).drop w) (by simp; omega) hn
        have hch := oneM_ch.1 _ _ _ ho
        have hd := hpc.suf
        have hdl : ((past t).drop w).length = (past t).length - w := by simp
        refine ⟨by simp, ?_, ?_, ?_, ?_⟩
        · rw [List.getLast?_cons, hS.last]; rfl
        · intro j y hj
          cases j with
          | zero => simp at hj; subst hj; exact hd
          | succ j =>
            obtain ⟨h1, h2⟩ := hS.le j y (by simpa using hj)
            refine ⟨by omega, ?_⟩
            have e : (past t).drop w = t.drop (t.length - (past t).length + w) := by
              conv => lhs; rw [hd.2]
              rw [List.drop_drop]
            rw [h2, e, List.drop_drop]
            congr 1
            rw [← e]; simp; omega
        · intro j y hj hk
          cases j with
          | zero =>
            simp at hj; subst hj
            have := oneM_sign ho hk
            simp only at this ⊢
            have hl : x.length = w := by rw [this, List.length_take]; omega
            rw [hl]
            exact ⟨hw.2, this⟩
          | succ j => exact hS.sign j y (by simpa using hj) hk
        · intro j y y' hj hj'
          have hj2 : (scanM ((past t).drop w)).1[j]? = some y' := by simpa using hj'
          cases j with
          | zero =>
            simp at hj; subst hj
            have := (hS.le _ _ hj2).1
            simp only at *
            omega
          | succ j => exact hS.lt j y y' (by simpa using hj) hj2
theorem stand {t : List UInt8} (h : (scanM t).2 = none) : Stand t (scanM t).1 := stand_ _ t (Nat.le_refl _) h
theorem skipP_line (p : Nat × Nat) (h : List UInt8) : (skipP p h).1 = p.1 + h.count 10 := by
  unfold skipP; split <;> simp_all
theorem place_line (l u : List UInt8) : (place l u).1 = (l.take (l.length - u.length)).count 10 + 1 := by
  unfold place; rw [plB_skip, skipP_line]; omega
theorem place_col (l u : List UInt8) : (place l u).2 = (plc (1, 1) (sfx (l.take (l.length - u.length)))).2 := rfl
theorem plc_snoc (p : Nat × Nat) (q : List (List UInt8)) (t : List UInt8) : (plc p (q ++ [t])).2 = if dc t = 10 then 1 else (plc p q).2 + 1 := by
  rw [plc_app, plc_cons, plc_nil]; unfold pstep; split <;> rfl
end Go.Proofs.YtekoeobfddfgpaaGreatDoor.M
set_option linter.unusedVariables false
set_option linter.unusedSimpArgs false
set_option maxRecDepth 100000
namespace Go.Proofs.YtekoeobfddfgpaaGreatDoor.M
open Go Go.Lib
theorem pieceM_none {t : List UInt8} (hne : t ≠ []) (he : (pieceM t).2.2 = 0) (hw : (pieceM t).2.1 = 0) : ∃ c r, t = c :: r ∧ c ≠ 39 ∧ c ≠ 92 ∧ (blk c || sgn c) = true := by
  cases t with
  | nil => exact absurd rfl hne
  | cons c r =>
    refine ⟨c, r, rfl, ?_⟩
    cases hb : blk c with
    | true =>
      refine ⟨?_, ?_, rfl⟩
      · rintro rfl; simp [blk] at hb
      · rintro rfl; simp [blk] at hb
    | false =>
      cases hs : sgn c with
      | false =>
        have := pieceM_pos hb (fun h => by rw [hs] at h; cases h) he
        omega
      | true =>
        by_cases h1 : c = 39 ∨ c = 92
        · have := pieceM_pos hb (fun _ => h1) he
          omega
        · exact ⟨fun e => h1 (.inl e), fun e => h1 (.inr e), rfl⟩
theorem textM_at {t : List UInt8} (hne : t ≠ []) (he : (textM t).2.2 = 0) : (pieceM t).2.2 = 0 ∧ ((pieceM t).2.1 = 0 ∧ textM t = ([], 0, 0) ∨ 1 ≤ (pieceM t).2.1 ∧ (textM (t.drop (pieceM t).2.1)).2.2 = 0 ∧ textM t = ((pieceM t).1 ++ (textM (t.drop (pieceM t).2.1)).1, (pieceM t).2.1 + (textM (t.drop (pieceM t).2.1)).2.1, (textM (t.drop (pieceM t).2.1)).2.2)) := by
  have e0 := textM.eq_1 t
  rw [dif_neg hne] at e0
  by_cases h1 : (pieceM t).2.2 ≠ 0
  · rw [if_pos h1] at e0
    rw [e0] at he
    exact absurd he h1
  · rw [if_neg h1] at e0
    refine ⟨by simpa using h1, ?_⟩
    by_cases h2 : (pieceM t).2.1 = 0
    · rw [dif_pos h2] at e0
      exact .inl ⟨h2, e0⟩
    · rw [dif_neg h2] at e0
      refine .inr ⟨by omega, ?_, e0⟩
      rw [e0] at he
      exact he
theorem textM_none {c : UInt8} {r : List UInt8} (h39 : c ≠ 39) (h92 : c ≠ 92) (hb : (blk c || sgn c) = true) : textM (c :: r) = ([], 0, 0) := by
  have hp : pieceM (c :: r) = ([], 0, 0) := by simp [pieceM, h39, h92, hb]
  rw [textM]
  simp [hp]
theorem textM_cut2 : ∀ m (t : List UInt8), t.length ≤ m → (textM t).2.2 = 0 → ∀ n z, (textM t).2.1 ≤ n → n ≤ t.length → Stop z → textM (t.take n ++ z) = textM t := by
  intro m
  induction m with
  | zero =>
    intro t h he n z hn hl hz
    have : t = [] := List.eq_nil_of_length_eq_zero (by omega)
    subst this
    rw [show textM [] = ([], 0, 0) by rw [textM]; simp]
    simpa using textM_stop hz
  | succ m ih =>
    intro t h he n z hn hl hz
    by_cases hne : t = []
    · subst hne
      rw [show textM [] = ([], 0, 0) by rw [textM]; simp]
      simpa using textM_stop hz
    · have hlen := List.length_pos_iff.2 hne
      obtain ⟨h1, ⟨h2, e0⟩ | ⟨h2, he2, e0⟩⟩ := textM_at hne he
      · obtain ⟨c, r, rfl, h39, h92, hb⟩ := pieceM_none hne h1 h2
        rw [e0]
        cases n with
        | zero => simpa using textM_stop hz
        | succ n =>
          rw [List.take_succ_cons, List.cons_append]
          exact textM_none h39 h92 hb
      · rw [e0] at hn
        simp only at hn
        have hw := pieceM_w (t := t)
        have hc := pieceM_cut h1 (n := n) (z := z) h2 (by omega) hl hz
        have hih := ih (t.drop (pieceM t).2.1) (by simp; omega) he2 (n - (pieceM t).2.1) z (by omega) (by simp; omega) hz
        rw [e0]
        generalize hX : t.take n ++ z = X at hc ⊢
        have hXd : X.drop (pieceM t).2.1 = (t.drop (pieceM t).2.1).take (n - (pieceM t).2.1) ++ z := by
          rw [← hX, List.drop_append_of_le_length (by rw [List.length_take]; omega), List.drop_take]
        have hXne : X ≠ [] := by
          intro e
          rw [e] at hX
          have := congrArg List.length hX
          rw [List.length_append, List.length_take, List.length_nil] at this
          omega
        rw [textM.eq_1 X, dif_neg hXne, hc, if_neg (by simpa using h1), dif_neg (by omega), hXd, hih]
theorem Stop.ne {z : List UInt8} (hz : Stop z) {c : UInt8} (hc : blk c = false) : z.head? ≠ some c := by
  rcases hz with rfl | ⟨d, r, rfl, hd⟩
  · simp
  · intro e
    simp at e
    rw [e, hc] at hd; cases hd
theorem find_cut {c : UInt8} : ∀ {r : List UInt8}, find c r ≠ r.length → ∀ {n : Nat} {z : List UInt8}, find c r < n → find c (r.take n ++ z) = find c r ∧ find c r < r.length := by
  intro r
  induction r with
  | nil => intro h; exact absurd rfl h
  | cons a r ih =>
    intro h n z hn
    obtain ⟨n, rfl⟩ : ∃ k, n = k + 1 := ⟨n - 1, by omega⟩
    rw [List.take_succ_cons, List.cons_append]
    unfold find at h hn ⊢
    rw [List.takeWhile_cons] at h hn ⊢
    rw [List.takeWhile_cons]
    by_cases e : (a != c) = true
    · rw [if_pos e] at h hn ⊢
      rw [if_pos e]
      have := ih (by unfold find; simpa using h) (n := n) (z := z) (by unfold find; simp at hn; omega)
      unfold find at this
      simp only [List.length_cons]
      omega
    · rw [if_neg e] at h hn ⊢
      rw [if_neg e]
      simp
theorem ltW_cut {r z : List UInt8} (hz : Stop z) {n : Nat} (hn : ltW r ≤ n + 1) : ltW (r.take n ++ z) = ltW r := by
  have z60 : z.head? ≠ some 60 := hz.ne (by decide)
  have hz1 : ltW z = 1 := by
    unfold ltW
    split <;> simp_all
  match r with
  | [] => simpa [ltW] using hz1
  | a :: r =>
    cases n with
    | zero =>
      rw [List.take_zero, List.nil_append, hz1]
      unfold ltW at hn ⊢
      split <;> simp_all
    | succ n =>
      rw [List.take_succ_cons, List.cons_append]
      by_cases ha : a = 60
      · subst ha
        match r with
        | [] =>
          simp only [List.take_nil, List.nil_append]
          unfold ltW
          split <;> simp_all
        | b :: r =>
          cases n with
          | zero =>
            rw [List.take_zero, List.nil_append]
            unfold ltW at hn ⊢
            split <;> simp_all
            split <;> simp_all
          | succ n =>
            rw [List.take_succ_cons, List.cons_append]
            by_cases hb : b = 60
            · subst hb; rfl
            · have e1 : ∀ q : List UInt8, ltW (60 :: b :: q) = 2 := by
                intro q
                unfold ltW
                split <;> simp_all
              rw [e1, e1]
      · have e1 : ∀ q : List UInt8, ltW (a :: q) = 1 := by
          intro q
          unfold ltW
          split <;> simp_all
        rw [e1, e1]
end Go.Proofs.YtekoeobfddfgpaaGreatDoor.M
set_option linter.unusedVariables false
set_option linter.unusedSimpArgs false
set_option maxRecDepth 100000
namespace Go.Proofs.YtekoeobfddfgpaaGreatDoor.M
open Go Go.Lib
theorem ltW_pos (r : List UInt8) : 1 ≤ ltW r := by unfold ltW; split <;> omega
theorem get_cut {r z : List UInt8} (hz : Stop z) {c : UInt8} (hc : blk c = false) {i n : Nat} (hn : n ≤ r.length) (h : r[i]? = some c → i < n) (hi : i ≤ n) : ((r.take n ++ z)[i]? = some c) ↔ r[i]? = some c := by
  rcases Nat.lt_or_ge i n with hlt | hge
  · rw [List.getElem?_append_left (by rw [List.length_take]; omega), List.getElem?_take, if_pos hlt]
  · obtain rfl : i = n := by omega
    constructor
    · intro e
      rw [List.getElem?_append_right (by rw [List.length_take]; omega), List.length_take, Nat.min_eq_left hn, Nat.sub_self] at e
      exact absurd (by rw [← e]; cases z <;> rfl) (hz.ne hc)
    · intro e; exact absurd (h e) (by omega)
theorem signW_cut {c : UInt8} {r z : List UInt8} (hz : Stop z) {n : Nat} (hn : signW (c :: r) ≤ n) (hl : n ≤ (c :: r).length) : signW ((c :: r).take n ++ z) = signW (c :: r) := by
  have hp := (signW_w c r).1
  obtain ⟨n, rfl⟩ : ∃ k, n = k + 1 := ⟨n - 1, by omega⟩
  rw [List.take_succ_cons, List.cons_append]
  simp only [signW] at hn ⊢
  have hl' : n ≤ r.length := by simp at hl; exact hl
  have hw : (if c = 60 then ltW (r.take n ++ z) else 1) = (if c = 60 then ltW r else 1) := by
    by_cases h : c = 60
    · rw [if_pos h, if_pos h]
      rw [if_pos h] at hn
      exact ltW_cut hz (by omega)
    · rw [if_neg h, if_neg h]
  rw [hw]
  have h1 : 1 ≤ (if c = 60 then ltW r else 1) := by split; exact ltW_pos r; exact Nat.le_refl _
  generalize (if c = 60 then ltW r else 1) = m at hn h1 ⊢
  congr 1
  by_cases hc : c = 60 ∨ c = 61
  · have hg := get_cut (r := r) hz (c := 42) (by decide) (i := m - 1) (n := n) hl' (fun e => by rw [if_pos ⟨hc, e⟩] at hn; omega) (by have := Nat.le_trans (Nat.le_add_right _ _) hn; omega)
    by_cases h : r[m - 1]? = some 42
    · rw [if_pos ⟨hc, hg.2 h⟩, if_pos ⟨hc, h⟩]
    · rw [if_neg (fun k => h (hg.1 k.2)), if_neg (fun k => h k.2)]
  · rw [if_neg (fun k => hc k.1), if_neg (fun k => hc k.1)]
theorem take_cut {t z : List UInt8} {n k : Nat} (h : k ≤ n) (hl : n ≤ t.length) : (t.take n ++ z).take k = t.take k := by
  rw [take_app (by rw [List.length_take]; omega), List.take_take, Nat.min_eq_left h]
theorem oneM_cut {t z : List UInt8} {k : Nat} {x : List UInt8} {w : Nat} (hne : t ≠ []) (h : oneM t = .tok k x w) (hz : Stop z) {n : Nat} (hw1 : 1 ≤ w) (hn : w ≤ n) (hl : n ≤ t.length) : oneM (t.take n ++ z) = .tok k x w := by
  cases t with
  | nil => exact absurd rfl hne
  | cons c r =>
    obtain ⟨n, rfl⟩ : ∃ k, n = k + 1 := ⟨n - 1, by omega⟩
    have hX : (c :: r).take (n + 1) ++ z = c :: (r.take n ++ z) := by rw [List.take_succ_cons, List.cons_append]
    have hl' : n ≤ r.length := by simp at hl; exact hl
    simp only [oneM] at h
    rw [hX]
    simp only [oneM]
    by_cases h93 : c = 93
    · rw [if_pos h93] at h; cases h
    rw [if_neg h93] at h ⊢
    by_cases h42 : c = 42
    · rw [if_pos h42] at h; cases h
    rw [if_neg h42] at h ⊢
    by_cases h91 : c = 91
    · rw [if_pos h91] at h ⊢
      by_cases hf : find 93 r = r.length
      · rw [if_pos hf] at h; cases h
      · rw [if_neg hf] at h
        injection h with e1 e2 e3
        have hc := find_cut hf (n := n) (z := z) (by omega)
        rw [hc.1, if_neg (by rw [List.length_append, List.length_take]; omega), take_cut (by omega) hl', e1, e2, e3]
    rw [if_neg h91] at h ⊢
    by_cases hs : c = 38 ∨ c = 60 ∨ c = 61 ∨ c = 47 ∨ c = 45
    · rw [if_pos hs] at h ⊢
      injection h with e1 e2 e3
      have hc := signW_cut (c := c) (r := r) hz (n := n + 1) (by omega) hl
      rw [hX] at hc
      have ht := take_cut (t := c :: r) (z := z) (n := n + 1) (k := w) hn hl
      rw [hX] at ht
      rw [hc, e3, ht, e1]
      rw [e3] at e2
      rw [e2]
    rw [if_neg hs] at h ⊢
    by_cases he : (textM (c :: r)).2.2 ≠ 0
    · rw [if_pos he] at h; cases h
    rw [if_neg he] at h
    injection h with e1 e2 e3
    have he' : (textM (c :: r)).2.2 = 0 := by simpa using he
    have hc := textM_cut2 _ (c :: r) (Nat.le_refl _) he' (n + 1) z (by omega) hl hz
    rw [hX] at hc
    rw [hc, if_neg he, e1, e2, e3]
theorem past_cons {c : UInt8} {r : List UInt8} (hb : blk c = false) (h : c ≠ 35) : past (c :: r) = c :: r := by
  rw [past_eq, List.dropWhile_cons, hb]
  simp [h]
theorem past_blk {c : UInt8} {r : List UInt8} (hb : blk c = true) : past (c :: r) = past r := by
  rw [past_eq (c :: r), past_eq r, List.dropWhile_cons, if_pos hb]
theorem past_note (r : List UInt8) : past (35 :: r) = past (r.dropWhile (· != 10)) := by
  rw [past_eq, List.dropWhile_cons]
  simp [blk]
theorem past_nil : past [] = [] := by rw [past_eq]; rfl
theorem past_ind {Q : List UInt8 → Prop} (h0 : Q []) (h1 : ∀ c r, blk c = true → Q r → Q (c :: r)) (h2 : ∀ r, Q (r.dropWhile (· != 10)) → Q (35 :: r)) (h3 : ∀ c r, blk c = false → c ≠ 35 → Q (c :: r)) : ∀ t, Q t := by
  suffices ∀ n (t : List UInt8), t.length ≤ n → Q t from fun t => this _ t (Nat.le_refl _)
  intro n
  induction n with
  | zero => intro t h; have : t = [] := List.eq_nil_of_length_eq_zero (by omega); subst this; exact h0
  | succ n ih =>
    intro t h
    cases t with
    | nil => exact h0
    | cons c r =>
      simp at h
      cases hb : blk c with
      | true => exact h1 c r hb (ih r h)
      | false =>
        by_cases hc : c = 35
        · subst hc
          have := (List.dropWhile_suffix (l := r) (· != 10)).length_le
          exact h2 r (ih _ (by omega))
        · exact h3 c r hb hc
theorem line_none {g : List UInt8} (h : ∀ c ∈ g, c ≠ 10) : g.dropWhile (· != 10) = [] := by
  induction g with
  | nil => rfl
  | cons a g ih =>
    rw [List.dropWhile_cons, if_pos (by simpa using h a (by simp))]
    exact ih fun c hc => h c (by simp [hc])
theorem mem_line {c : UInt8} {r : List UInt8} (h : c ∈ r.takeWhile (· != 10)) : (c != 10) = true := by
  induction r with
  | nil => simp at h
  | cons a r ih =>
    rw [List.takeWhile_cons] at h
    split at h
    · rename_i ha
      rcases List.mem_cons.1 h with rfl | h
      · exact ha
      · exact ih h
    · simp at h
theorem line_app {r : List UInt8} (hr : r.dropWhile (· != 10) ≠ []) (z : List UInt8) : (r ++ z).dropWhile (· != 10) = r.dropWhile (· != 10) ++ z := by
  induction r with
  | nil => exact absurd rfl hr
  | cons a r ih =>
    rw [List.cons_append, List.dropWhile_cons, List.dropWhile_cons]
    rw [List.dropWhile_cons] at hr
    by_cases h : (a != 10) = true
    · rw [if_pos h] at hr ⊢
      rw [if_pos h]
      exact ih hr
    · rw [if_neg h, if_neg h, List.cons_append]
theorem line_all {r : List UInt8} (hr : r.dropWhile (· != 10) = []) (z : List UInt8) : (r ++ z).dropWhile (· != 10) = z.dropWhile (· != 10) := by
  induction r with
  | nil => rfl
  | cons a r ih =>
    rw [List.cons_append, List.dropWhile_cons]
    rw [List.dropWhile_cons] at hr
    by_cases h : (a != 10) = true
    · rw [if_pos h] at hr ⊢
      exact ih hr
    · rw [if_neg h] at hr; cases hr
def Gap (g : List UInt8) : Prop := (∀ c ∈ g, c ≠ 10) ∧ ∀ y, past (g ++ 10 :: y) = past y
theorem past_gap {g : List UInt8} (hg : Gap g) {p : List UInt8} (h : past p = []) (y : List UInt8) : past (p ++ (g ++ 10 :: y)) = past y := by
  revert h
  induction p using past_ind with
  | h0 => intro _; exact hg.2 y
  | h1 c r hb ih => rw [List.cons_append, past_blk hb, past_blk hb]; exact ih
  | h2 r ih =>
    rw [List.cons_append, past_note, past_note]
    intro h
    by_cases hr : r.dropWhile (· != 10) = []
    · rw [line_all hr]
      have hgl : g.dropWhile (· != 10) = [] := by
        exact line_none hg.1
      rw [line_all hgl, List.dropWhile_cons]
      simp only [bne_self_eq_false, Bool.false_eq_true, if_false]
      exact past_blk (by decide)
    · rw [line_app hr]
      exact ih h
  | h3 c r hb hc => rw [past_cons hb hc]; intro h; cases h
theorem past_head_nil (t : List UInt8) : ∃ p, t = p ++ past t ∧ past p = [] ∧ (past t ≠ [] → ∀ c r, blk c = false → c ≠ 35 → past (p ++ c :: r) = c :: r) := by
  induction t using past_ind with
  | h0 => exact ⟨[], by rw [past_nil]; rfl, past_nil, fun h => absurd past_nil h⟩
  | h1 c r hb ih =>
    obtain ⟨p, e1, e2, e3⟩ := ih
    refine ⟨c :: p, by rw [past_blk hb, List.cons_append, ← e1], by rw [past_blk hb, e2], fun h c' r' h1 h2 => ?_⟩
    rw [past_blk hb] at h
    rw [List.cons_append, past_blk hb]
    exact e3 h c' r' h1 h2
  | h2 r ih =>
    obtain ⟨p, e1, e2, e3⟩ := ih
    have e : r = r.takeWhile (· != 10) ++ r.dropWhile (· != 10) := List.takeWhile_append_dropWhile.symm
    have hall : (r.takeWhile (· != 10)).dropWhile (· != 10) = [] := by
      exact line_none fun c hc => by simpa using mem_line hc
    have hl : ∀ q, (35 :: r.takeWhile (· != 10) ++ q) = 35 :: (r.takeWhile (· != 10) ++ q) := fun q => rfl
    by_cases hr : r.dropWhile (· != 10) = []
    · refine ⟨35 :: r, ?_, ?_, ?_⟩
      · rw [past_note, hr, past_nil, List.append_nil]
      · rw [past_note, hr, past_nil]
      · intro h; rw [past_note, hr] at h; exact absurd past_nil h
    · have hp0 : ∀ q, (p ++ q).dropWhile (· != 10) = p ++ q ∨ p = [] := by
        intro q
        cases p with
        | nil => exact .inr rfl
        | cons a p =>
          left
          have ha : a = 10 := by
            have := List.head?_dropWhile_not (· != (10 : UInt8)) r
            rw [e1] at this
            simpa using this
          rw [List.cons_append, List.dropWhile_cons, ha]; simp
      refine ⟨35 :: (r.takeWhile (· != 10) ++ p), ?_, ?_, ?_⟩
      · rw [past_note, List.cons_append, List.append_assoc, ← e1, ← e]
      · rw [past_note, line_all hall]
        have h10 : ∀ q : List UInt8, p ++ q = r.dropWhile (· != 10) → True := fun _ _ => trivial
        cases p with
        | nil => exact past_nil
        | cons a p =>
          have := hp0 []
          rw [List.append_nil] at this
          rcases this with h | h
          · rw [h]; exact e2
          · cases h
      · intro h c' r' h1 h2
        rw [past_note] at h
        rw [List.cons_append, past_note, List.append_assoc, line_all hall]
        cases p with
        | nil =>
          exfalso
          rw [List.nil_append] at e1
          have h10 : (r.dropWhile (· != 10)).head? = some 10 := by
            cases hd : r.dropWhile (· != 10) with
            | nil => exact absurd hd hr
            | cons a q =>
              have := List.head?_dropWhile_not (· != (10 : UInt8)) r
              rw [hd] at this
              simpa using this
          cases hq : past (r.dropWhile (· != 10)) with
          | nil => exact h hq
          | cons a q =>
            have hh := past_head _ a q hq
            rw [e1, hq] at h10
            simp at h10
            rw [h10] at hh
            exact absurd hh.1 (by decide)
        | cons a p =>
          rcases hp0 (c' :: r') with h' | h'
          · rw [h']; exact e3 h c' r' h1 h2
          · cases h'
  | h3 c r hb hc => exact ⟨[], by rw [past_cons hb hc]; rfl, past_nil, fun _ c' r' h1 h2 => by rw [List.nil_append]; exact past_cons h1 h2⟩
end Go.Proofs.YtekoeobfddfgpaaGreatDoor.M
set_option linter.unusedVariables false
set_option linter.unusedSimpArgs false
set_option maxRecDepth 100000
namespace Go.Proofs.YtekoeobfddfgpaaGreatDoor.M
open Go Go.Lib
theorem past_past (t : List UInt8) : past (past t) = past t := by
  cases h : past t with
  | nil => exact past_nil
  | cons c r =>
    have := past_head t c r h
    exact past_cons this.1 this.2
def kt (y : Nat × List UInt8 × List UInt8) : Nat × List UInt8 := (y.1, y.2.1)
theorem scanM_noted {g : List UInt8} (hg : Gap g) (hb : ∃ c r, g = c :: r ∧ blk c = true) : ∀ n (t : List UInt8), t.length ≤ n → (scanM t).2 = none → ∀ (j : Nat) (y : Nat × List UInt8 × List UInt8), (scanM t).1[j]? = some y → (scanM (t.take (t.length - y.2.2.length) ++ (g ++ 10 :: 32 :: y.2.2))).2 = none ∧ (scanM (t.take (t.length - y.2.2.length) ++ (g ++ 10 :: 32 :: y.2.2))).1.map kt = (scanM t).1.map kt := by
  have hst : ∀ q, Stop (g ++ q) := by
    obtain ⟨c, r, rfl, hc⟩ := hb
    intro q
    exact .inr ⟨c, r ++ q, rfl, hc⟩
  have hend : ∀ (t : List UInt8), past t = [] → (scanM t).2 = none → ∀ (j : Nat) (y : Nat × List UInt8 × List UInt8), (scanM t).1[j]? = some y → (scanM (t.take (t.length - y.2.2.length) ++ (g ++ 10 :: 32 :: y.2.2))).2 = none ∧ (scanM (t.take (t.length - y.2.2.length) ++ (g ++ 10 :: 32 :: y.2.2))).1.map kt = (scanM t).1.map kt := by
    intro t hp hn j y hj
    rw [scanM_end hp] at hj ⊢
    cases j with
    | succ j => simp at hj
    | zero =>
      simp at hj
      subst hj
      simp only [List.length_nil, Nat.sub_zero, List.take_length]
      rw [scanM_past (past_gap hg hp [32]), scanM_end (by rw [past_blk (by decide)]; exact past_nil)]
      exact ⟨rfl, rfl⟩
  intro n
  induction n with
  | zero =>
    intro t h hn j y hj
    obtain rfl : t = [] := List.eq_nil_of_length_eq_zero (by omega)
    exact hend [] past_nil hn j y hj
  | succ n ih =>
    intro t h hn j y hj
    by_cases hp : past t = []
    · exact hend t hp hn j y hj
    · cases ho : oneM (past t) with
      | bad no k => rw [scanM_bad hp ho] at hn; cases hn
      | tok kd x w =>
        have hw := oneM_w hp (past_head t) ho
        have hpl := past_len t
        obtain ⟨p, e1, e2, e3⟩ := past_head_nil t
        have hpl2 : t.length = p.length + (past t).length := by conv => lhs; rw [e1]; rw [List.length_append]
        have hscan := scanM_tok hp ho
        cases j with
        | zero =>
          have hj0 := hj
          rw [hscan] at hj0
          simp at hj0
          subst hj0
          simp only
          have ek : t.take (t.length - (past t).length) = p := by
            rw [show t.length - (past t).length = p.length by omega]
            conv => lhs; rw [e1]
            rw [List.take_left]
          have : past (t.take (t.length - (past t).length) ++ (g ++ 10 :: 32 :: past t)) = past t := by
            rw [ek, past_gap hg e2, past_blk (by decide), past_past]
          rw [scanM_past this]
          exact ⟨hn, rfl⟩
        | succ j =>
          rw [hscan] at hn hj ⊢
          have hj2 : (scanM ((past t).drop w)).1[j]? = some y := by simpa using hj
          have hle := ((stand hn).le j y hj2).1
          have hdl : ((past t).drop w).length = (past t).length - w := by simp
          obtain ⟨i1, i2⟩ := ih ((past t).drop w) (by omega) hn j y hj2
          obtain ⟨m, hm⟩ : ∃ m, (past t).length - y.2.2.length = m := ⟨_, rfl⟩
          have ek : t.take (t.length - y.2.2.length) = p ++ (past t).take m := by
            rw [show t.length - y.2.2.length = p.length + m by omega]
            conv => lhs; rw [e1]
            rw [List.take_append, List.take_of_length_le (by omega), Nat.add_sub_cancel_left]
          rw [show ((past t).drop w).length - y.2.2.length = m - w by omega] at i1 i2
          obtain ⟨G, hG⟩ : ∃ G, g ++ 10 :: 32 :: y.2.2 = G := ⟨_, rfl⟩
          have hsG : Stop G := by rw [← hG]; exact hst _
          rw [hG] at i1 i2 ⊢
          have hpa : past (t.take (t.length - y.2.2.length) ++ G) = (past t).take m ++ G := by
            rw [ek, List.append_assoc]
            cases hq : past t with
            | nil => exact absurd hq hp
            | cons c r =>
              have hc := past_head t c r hq
              rw [show m = (m - 1) + 1 by omega, List.take_succ_cons, List.cons_append]
              exact e3 hp c _ hc.1 hc.2
          have hoc := oneM_cut hp ho hsG (n := m) hw.1 (by omega) (by omega)
          have hne : past (t.take (t.length - y.2.2.length) ++ G) ≠ [] := by
            rw [hpa]
            intro e
            have := congrArg List.length e
            rw [List.length_append, List.length_take, List.length_nil] at this
            omega
          have hs2 := scanM_tok hne (by rw [hpa]; exact hoc)
          rw [hs2, hpa, List.drop_append_of_le_length (by rw [List.length_take]; omega), List.drop_take]
          exact ⟨i1, by simp only [List.map_cons]; rw [i2]; rfl⟩
end Go.Proofs.YtekoeobfddfgpaaGreatDoor.M
set_option linter.unusedVariables false
namespace Go.Proofs.YtekoeobfddfgpaaGreatDoor.Z
open Go
def jumps (J : Nat → Act → World → Prop) (Q : Exit → Act → World → Prop) : Exit → Act → World → Prop
  | .goto l, a, w => J l a w
  | e, a, w => Q e a w
section
variable {P : Program} {a : Act} {w : World} {Q : Exit → Act → World → Prop}
theorem scope_labels {γ : Type} {c : Code} (J : Nat → γ → Act → World → Prop) (μ : Nat → γ → Nat)
    (first : c.wp P (jumps (fun l a w => ∃ g, J l g a w) Q) a w)
    (pass : ∀ l g a w, J l g a w → ∃ rest, findLabel c l = some rest ∧ rest.wp P (jumps (fun l' a' w' => ∃ g', J l' g' a' w' ∧ μ l' g' < μ l g) Q) a w) : (Code.scope c).wp P Q a w := by
  intro b k cs
  have key : ∀ n l g a w, μ l g = n → J l g a w → ∃ rest, findLabel c l = some rest ∧ ∃ e a' w', Q e a' w' ∧ Arrives P (lone (b.at a (.code rest :: .inScope c :: k)) cs w) b k cs e a' w' := by
    intro n
    induction n using Nat.strongRecOn with
    | _ n ih =>
      intro l g a w hn hJ
      obtain ⟨rest, hf, hp⟩ := pass l g a w hJ
      refine ⟨rest, hf, ?_⟩
      obtain ⟨e, a₁, w₁, hq, harr⟩ := hp b (.inScope c :: k) cs
      cases e with
      | normal => exact ⟨.normal, a₁, w₁, hq, Steps.trans harr (.one step_inScope)⟩
      | exit id => exact ⟨.exit id, a₁, w₁, hq, fun k' hk => harr k' (by simp [exitTo, hk])⟩
      | goto l' =>
        obtain ⟨g', hJ', hlt⟩ := hq
        obtain ⟨rest', hf', e₂, a₂, w₂, hq₂, harr₂⟩ := ih _ (by omega) l' g' a₁ w₁ rfl hJ'
        have hg : gotoIn l' (.inScope c :: k) = some (.code rest' :: .inScope c :: k) := by simp [gotoIn, hf']
        exact ⟨e₂, a₂, w₂, hq₂, .of_steps (harr _ hg) harr₂⟩
      | ret => exact ⟨_, a₁, w₁, hq, harr⟩
      | panic ch => exact ⟨_, a₁, w₁, hq, harr⟩
      | outgrown => exact ⟨_, a₁, w₁, hq, harr⟩
  obtain ⟨e, a₁, w₁, hq, harr⟩ := first b (.inScope c :: k) cs
  cases e with
  | normal => exact ⟨.normal, a₁, w₁, hq, .head step_scope (Steps.trans harr (.one step_inScope))⟩
  | exit id => exact ⟨.exit id, a₁, w₁, hq, fun k' hk => .head step_scope (harr k' (by simp [exitTo, hk]))⟩
  | goto l' =>
    obtain ⟨g', hJ'⟩ := hq
    obtain ⟨rest', hf', e₂, a₂, w₂, hq₂, harr₂⟩ := key _ l' g' a₁ w₁ rfl hJ'
    have hg : gotoIn l' (.inScope c :: k) = some (.code rest' :: .inScope c :: k) := by simp [gotoIn, hf']
    exact ⟨e₂, a₂, w₂, hq₂, .of_steps (.head step_scope (harr _ hg)) harr₂⟩
  | ret => exact ⟨_, a₁, w₁, hq, .of_steps (.one step_scope) harr⟩
  | panic ch => exact ⟨_, a₁, w₁, hq, .of_steps (.one step_scope) harr⟩
  | outgrown => exact ⟨_, a₁, w₁, hq, .of_steps (.one step_scope) harr⟩
end
end Go.Proofs.YtekoeobfddfgpaaGreatDoor.Z
