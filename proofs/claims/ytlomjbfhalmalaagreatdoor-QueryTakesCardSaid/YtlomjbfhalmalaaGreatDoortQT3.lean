/-
  Of this seat's texts what the claim wants (printed by a program): QT3.
-/
import Derived.Test.YtlomjbfhalmalaaGreatDoortJ1
import Derived.Test.YtlomjbfhalmalaaGreatDoortH4
import Derived.Test.YtlomjbfhalmalaaGreatDoortJZ
set_option linter.unusedVariables false
set_option linter.unusedSimpArgs false
set_option maxRecDepth 100000
namespace Go.Proofs.YtlomjbfhalmalaaGreatDoor.M
open Go Go.Lib Go.Proofs.YtlomjbfhalmalaaGreatDoor.H
theorem takeNe {t : List UInt8} (h : t ≠ []) {n : Nat} (hn : 1 ≤ n) : t.take n ≠ [] := by
  intro e
  have := congrArg List.length e
  have hl : 0 < t.length := List.length_pos_iff.2 h
  rw [List.length_take, List.length_nil] at this
  omega
theorem encLen {t : List UInt8} (h : t ≠ []) (hi : ill t = false) : dw t = (enc (dc t)).length := by
  have e1 := take_enc h hi
  have h3 := List.take_append_drop (dw t) t
  rw [e1] at h3
  have := dw_enc (okc_dc h) (t.drop (dw t))
  rw [h3] at this
  exact this
theorem decCut {t z : List UInt8} (h : t ≠ []) {n : Nat} (hn : dw t ≤ n) (hz : b0 z < 128) : dc (t.take n ++ z) = dc t ∧ dw (t.take n ++ z) = dw t := by
  have hp := dw_pos h
  have hl := dw_len h
  have hne : t.take n ≠ [] := takeNe h (by omega)
  have hX : t.take n ++ z ≠ [] := by simp [hne]
  have ta : ∀ {a z : List UInt8} {k : Nat}, k ≤ a.length → (a ++ z).take k = a.take k := fun h => List.take_append_of_le_length h
  cases hi : ill t with
  | false =>
    have e1 := take_enc h hi
    have hw := encLen h hi
    have e2 : t.take n ++ z = enc (dc t) ++ ((t.take n ++ z).drop (dw t)) := by
      have h4 := (List.take_append_drop (dw t) (t.take n ++ z)).symm
      have h5 : (t.take n ++ z).take (dw t) = enc (dc t) := by
        rw [ta (by rw [List.length_take]; omega), List.take_take, Nat.min_eq_left hn, e1]
      rw [h5] at h4
      exact h4
    rw [e2, dc_enc (okc_dc h), dw_enc (okc_dc h)]
    exact ⟨rfl, hw.symm⟩
  | true =>
    have hdi : dc t = 65533 ∧ dw t = 1 := by simpa [ill] using hi
    have hX1 : dw (t.take n ++ z) ≤ (t.take n).length := by
      rcases Nat.lt_or_ge (t.take n).length (dw (t.take n ++ z)) with hlt | hge
      · exfalso
        have hb := unit_bytes hX (t.take n).length (List.length_pos_iff.2 hne) hlt
        unfold bt at hb
        rw [List.getD_eq_getElem?_getD, List.getElem?_append_right (Nat.le_refl _), Nat.sub_self, ← List.getD_eq_getElem?_getD] at hb
        have : (z.getD 0 0).toNat < 128 := hz
        omega
      · exact hge
    cases hj : ill (t.take n ++ z) with
    | true =>
      have hdj : dc (t.take n ++ z) = 65533 ∧ dw (t.take n ++ z) = 1 := by simpa [ill] using hj
      rw [hdi.1, hdi.2, hdj.1, hdj.2]
      exact ⟨rfl, rfl⟩
    | false =>
      exfalso
      have e1 := take_enc hX hj
      rw [ta hX1, List.take_take, Nat.min_eq_left (by have := hX1; rw [List.length_take] at this; omega)] at e1
      have e2 : t = enc (dc (t.take n ++ z)) ++ t.drop (dw (t.take n ++ z)) := by rw [← e1, List.take_append_drop]
      have k1 := dc_enc (okc_dc hX) (t.drop (dw (t.take n ++ z)))
      have k2 := dw_enc (okc_dc hX) (t.drop (dw (t.take n ++ z)))
      rw [← e2] at k1 k2
      rw [hdi.1] at k1
      rw [hdi.2, ← k1] at k2
      have e3 : (enc 65533).length = 3 := by decide
      rw [e3] at k2
      omega
theorem b0Nil : b0 ([] : List UInt8) < 128 := by decide
theorem decTake {t : List UInt8} (h : t ≠ []) {n : Nat} (hn : dw t ≤ n) : dc (t.take n) = dc t ∧ dw (t.take n) = dw t := by
  have := decCut h hn b0Nil
  rw [List.append_nil] at this
  exact this
theorem b0App {a z : List UInt8} (h : a ≠ []) : b0 (a ++ z) = b0 a := by
  cases a with
  | nil => exact absurd rfl h
  | cons c r => rfl
theorem b0Take {t : List UInt8} {n : Nat} (hn : 1 ≤ n) : b0 (t.take n) = b0 t := by
  cases t with
  | nil => simp
  | cons c r =>
    cases n with
    | zero => omega
    | succ n => rfl
theorem ptOf {t t' : List UInt8} (h1 : dc t' = dc t) (h2 : dw t' = dw t) (h3 : b0 t' = b0 t) : pt t' = pt t := by
  unfold pt ill; rw [h1, h2, h3]
theorem ptsNil : pts [] = [] := by unfold pts; rw [sfx_nil]; rfl
theorem ptsCons {l : List UInt8} (h : l ≠ []) : pts l = (pt l : Int) :: pts (l.drop (dw l)) := by unfold pts; rw [sfx_cons h]; rfl
theorem ptsPre : ∀ (q : List (List UInt8)) (t : List UInt8) (n : Nat), n ≤ t.length → sfx t = q ++ sfx (t.drop n) → q.map (fun t => (pt t : Int)) = pts (t.take n) := by
  intro q
  induction q with
  | nil =>
    intro t n hn hs
    by_cases h : t = []
    · subst h; simp [ptsNil]
    · rcases Nat.eq_zero_or_pos n with rfl | hp
      · simp [ptsNil]
      · exfalso
        by_cases hd : t.drop n = []
        · rw [hd, sfx_nil, sfx_cons h] at hs; simp at hs
        · rw [sfx_cons h, sfx_cons hd] at hs
          simp only [List.nil_append, List.cons.injEq] at hs
          have := congrArg List.length hs.1
          have h2 := List.length_pos_iff.2 h
          simp at this; omega
  | cons q0 q ih =>
    intro t n hn hs
    by_cases h : t = []
    · subst h; rw [sfx_nil] at hs; simp at hs
    · rw [sfx_cons h] at hs
      simp only [List.cons_append, List.cons.injEq] at hs
      obtain ⟨rfl, hs⟩ := hs
      have hle := dw_len h
      have hp := dw_pos h
      have hc : Ch (t.drop (dw t)) (t.drop n) := ⟨q, hs⟩
      have hd : dw t ≤ n := by
        have := hc.drop.1
        simp at this; omega
      have e : t.drop n = (t.drop (dw t)).drop (n - dw t) := by rw [List.drop_drop, show dw t + (n - dw t) = n by omega]
      rw [e] at hs
      have hi := ih (t.drop (dw t)) (n - dw t) (by rw [List.length_drop]; omega) hs
      have hne : t.take n ≠ [] := takeNe h (by omega)
      obtain ⟨e1, e2⟩ := decTake h hd
      rw [List.map_cons, hi, ptsCons hne, e2, List.drop_take, ptOf e1 e2 (b0Take (by omega))]
theorem ptsAt {l : List UInt8} {n : Nat} (hn : n ≤ l.length) (h : Ch l (l.drop n)) : pts l = pts (l.take n) ++ pts (l.drop n) := by
  obtain ⟨q, hq⟩ := h
  rw [← ptsPre q l n hn hq]
  unfold pts
  rw [hq, List.map_append]
theorem ptsAscii {c : UInt8} (r : List UInt8) (hc : c.toNat < 128) : pts (c :: r) = (c.toNat : Int) :: pts r := by
  have hb : b0 (c :: r) < 128 := hc
  have hu := b0_unit (l := c :: r) (by simp) hb
  rw [ptsCons (by simp), hu.1]
  have hi : ill (c :: r) = false := by
    unfold ill
    rw [hu.2]
    have : ¬ b0 (c :: r) = 65533 := by omega
    simp [this]
  have : pt (c :: r) = c.toNat := by unfold pt; rw [hi, hu.2]; rfl
  rw [this]; rfl
def sp (c : UInt8) : Bool := c == 42 || c == 63 || c == 92
def ownb (l : List UInt8) : List UInt8 := l.flatMap fun c => if sp c then [92, c] else [c]
theorem ownb_cons (c : UInt8) (l : List UInt8) : ownb (c :: l) = (if sp c then [92, c] else [c]) ++ ownb l := rfl
theorem ownb_append (a b : List UInt8) : ownb (a ++ b) = ownb a ++ ownb b := by unfold ownb; rw [List.flatMap_append]
theorem ownb_len : ∀ l, (ownb l).length ≤ 2 * l.length
  | [] => by simp [ownb]
  | c :: l => by
    have := ownb_len l
    rw [ownb_cons, List.length_append, List.length_cons]
    split <;> simp <;> omega
theorem sp_ascii (c : UInt8) (h : sp c = true) : c.toNat < 128 := by
  unfold sp at h
  simp only [Bool.or_eq_true, beq_iff_eq] at h
  rcases h with (rfl | rfl) | rfl <;> decide
theorem ownb_plain : ∀ u : List UInt8, (∀ c ∈ u, sp c = false) → ownb u = u
  | [], _ => rfl
  | c :: u, h => by
    rw [ownb_cons, h c (List.mem_cons_self ..), ownb_plain u (fun x hx => h x (List.mem_cons_of_mem _ hx))]; rfl
theorem ownb_agree : ∀ l : List UInt8, ∃ a y y', l = a ++ y ∧ ownb l = a ++ y' ∧ b0 y < 128 ∧ b0 y' < 128
  | [] => ⟨[], [], [], rfl, rfl, b0Nil, b0Nil⟩
  | c :: l => by
    cases hs : sp c with
    | true => exact ⟨[], c :: l, 92 :: c :: ownb l, rfl, by rw [ownb_cons, hs]; rfl, sp_ascii c hs, by show (92 : UInt8).toNat < 128; decide⟩
    | false =>
      obtain ⟨a, y, y', e1, e2, h1, h2⟩ := ownb_agree l
      exact ⟨c :: a, y, y', by rw [e1]; rfl, by rw [ownb_cons, hs, e2]; rfl, h1, h2⟩
theorem unitPlain {l : List UInt8} (h : l ≠ []) (hb : 128 ≤ b0 l) : ∀ c ∈ l.take (dw l), sp c = false := by
  intro c hc
  obtain ⟨i, hi⟩ := List.mem_iff_getElem?.1 hc
  rw [List.getElem?_take] at hi
  split at hi
  · rename_i hlt
    have : 128 ≤ c.toNat := by
      cases i with
      | zero =>
        have : bt l 0 = c.toNat := by unfold bt; rw [List.getD_eq_getElem?_getD, hi]; rfl
        rw [← this]; exact hb
      | succ i =>
        have := unit_bytes h (i + 1) (by omega) hlt
        have e : bt l (i + 1) = c.toNat := by unfold bt; rw [List.getD_eq_getElem?_getD, hi]; rfl
        omega
    cases hs : sp c with
    | false => rfl
    | true => have := sp_ascii c hs; omega
  · simp at hi
theorem pt_big {l : List UInt8} (h : l ≠ []) (hb : 128 ≤ b0 l) : 128 ≤ pt l := by
  have f := d_facts h
  unfold pt
  split
  · omega
  · rename_i hi
    have hi' : ¬ (dc l = 65533 ∧ dw l = 1) := by simpa [ill] using hi
    by_cases h1 : dw l = 1
    · rcases f.2.2.2.2.1 h1 with x | x <;> omega
    · exact (f.2.2.2.2.2.1 (by omega)).2
theorem pts_ownb : ∀ l : List UInt8, pts (ownb l) = own (pts l) := by
  refine sfx_ind (by show pts [] = own (pts []); rw [ptsNil]; rfl) fun l h ih => ?_
  rw [ptsCons h]
  by_cases hb : b0 l < 128
  · obtain ⟨c, r, rfl⟩ : ∃ c r, l = c :: r := by
      cases l with
      | nil => exact absurd rfl h
      | cons c r => exact ⟨c, r, rfl⟩
    have hc : c.toNat < 128 := hb
    have hu := b0_unit h hb
    have hpt := ptsAscii r hc
    rw [ptsCons h, hu.1] at hpt
    injection hpt with hp1 hp2
    rw [hu.1] at ih ⊢
    simp only [List.drop_succ_cons, List.drop_zero] at ih ⊢
    rw [hp1, own]
    have hz : ((c.toNat : Int) = 42 ∨ (c.toNat : Int) = 63 ∨ (c.toNat : Int) = 92) ↔ sp c = true := by
      unfold sp
      simp only [Bool.or_eq_true, beq_iff_eq]
      have k1 : (c.toNat : Int) = 42 ↔ c = 42 := ⟨fun e => UInt8.toNat_inj.1 (by have : (42 : UInt8).toNat = 42 := rfl; omega), fun e => by rw [e]; rfl⟩
      have k2 : (c.toNat : Int) = 63 ↔ c = 63 := ⟨fun e => UInt8.toNat_inj.1 (by have : (63 : UInt8).toNat = 63 := rfl; omega), fun e => by rw [e]; rfl⟩
      have k3 : (c.toNat : Int) = 92 ↔ c = 92 := ⟨fun e => UInt8.toNat_inj.1 (by have : (92 : UInt8).toNat = 92 := rfl; omega), fun e => by rw [e]; rfl⟩
      rw [k1, k2, k3, or_assoc]
    by_cases hs : sp c = true
    · rw [if_pos (hz.2 hs), ownb_cons, if_pos hs]
      show pts (92 :: c :: ownb r) = _
      rw [ptsAscii _ (show (92 : UInt8).toNat < 128 by decide), ptsAscii _ hc, ih]; rfl
    · rw [if_neg (fun e => hs (hz.1 e)), ownb_cons, if_neg hs]
      show pts (c :: ownb r) = _
      rw [ptsAscii _ hc, ih]
  · have hb' : 128 ≤ b0 l := by omega
    have hpl := unitPlain h hb'
    have hbig := pt_big h hb'
    have hlen := dw_len h
    have hpos := dw_pos h
    rw [own, if_neg (by omega), ← ih]
    have e0 : ownb l = l.take (dw l) ++ ownb (l.drop (dw l)) := by
      conv => lhs; rw [← List.take_append_drop (dw l) l]
      rw [ownb_append, ownb_plain _ hpl]
    obtain ⟨a, y, y', e1, e2, h1, h2⟩ := ownb_agree (l.drop (dw l))
    have e3 : l = l.take (dw l) ++ a ++ y := by rw [List.append_assoc, ← e1, List.take_append_drop]
    have e4' : ∀ (u : List UInt8) (n : Nat), l = u ++ a ++ y → u.length + a.length = n → l.take n = u ++ a := by
      rintro u n h rfl
      rw [h, List.take_left' (by simp)]
    have e4 : l.take (dw l + a.length) = l.take (dw l) ++ a := e4' _ _ e3 (by rw [List.length_take]; omega)
    have hc := decCut h (n := dw l + a.length) (by omega) h2
    rw [e4, List.append_assoc, ← e2, ← e0] at hc
    have hne : ownb l ≠ [] := by rw [e0]; intro e; have := (List.append_eq_nil_iff.1 e).1; exact takeNe h hpos this
    have hb0 : b0 (ownb l) = b0 l := by
      rw [e0, b0App (takeNe h hpos), b0Take hpos]
    rw [ptsCons hne, hc.2, ptOf hc.1 hc.2 hb0]
    congr 1
    rw [e0, List.drop_left' (by rw [List.length_take]; omega)]
def trailB : List UInt8 → Nat
  | [] => 0
  | c :: r => if c = 92 ∧ trailB r = r.length then trailB r + 1 else trailB r
theorem trailB_le : ∀ l, trailB l ≤ l.length
  | [] => Nat.le_refl _
  | c :: r => by
    have := trailB_le r
    rw [trailB]; split <;> simp only [List.length_cons] <;> omega
theorem trailB_all : ∀ r : List UInt8, trailB r = r.length → r = List.replicate r.length 92
  | [], _ => rfl
  | c :: r, h => by
    rw [trailB] at h
    have hl := trailB_le r
    split at h
    · rename_i hc
      rw [List.length_cons, List.replicate_succ, ← trailB_all r hc.2, hc.1]
    · rw [List.length_cons] at h; omega
theorem trailB_app (a : List UInt8) {r : List UInt8} (h : trailB r ≠ r.length) : trailB (a ++ r) = trailB r := by
  induction a with
  | nil => rfl
  | cons c a ih =>
    rw [List.cons_append, trailB, ih, if_neg]
    rintro ⟨_, e⟩
    rw [List.length_append] at e
    have := trailB_le r
    cases a with
    | nil => exact h (by simpa using e)
    | cons x y => rw [List.length_cons] at e; omega
theorem trailB_last (a : List UInt8) {c : UInt8} (r : List UInt8) (hc : c ≠ 92) (h : trailB r = r.length) : trailB (a ++ c :: r) = trailB r := by
  have h0 : trailB (c :: r) = trailB r := by rw [trailB, if_neg (fun e => hc e.1)]
  rw [trailB_app a (by rw [h0, List.length_cons, h]; omega), h0]
theorem trail_rep : ∀ n, pts (List.replicate n 92) = List.replicate n (92 : Int) ∧ trail (List.replicate n (92 : Int)) = n
  | 0 => ⟨by rw [List.replicate_zero, ptsNil]; rfl, rfl⟩
  | n + 1 => by
    obtain ⟨h1, h2⟩ := trail_rep n
    refine ⟨?_, ?_⟩
    · rw [List.replicate_succ, ptsAscii _ (by decide), h1, List.replicate_succ]; rfl
    · rw [List.replicate_succ, trail, h2, if_pos ⟨rfl, by rw [List.length_replicate]⟩]
theorem trail_pts : ∀ l : List UInt8, trail (pts l) = trailB l ∧ (trail (pts l) = (pts l).length → trailB l = l.length) := by
  refine sfx_ind (by rw [ptsNil]; exact ⟨rfl, fun _ => rfl⟩) fun l h ih => ?_
  obtain ⟨i1, i2⟩ := ih
  have hp := dw_pos h
  have hl := dw_len h
  rw [ptsCons h, trail]
  have eu : l = l.take (dw l) ++ l.drop (dw l) := (List.take_append_drop _ _).symm
  have hple := trail_le (pts (l.drop (dw l)))
  have hpl := trailB_le (l.drop (dw l))
  by_cases h92 : (pt l : Int) = 92
  · have hb : b0 l < 128 := by
      rcases Nat.lt_or_ge (b0 l) 128 with x | x
      · exact x
      · have := pt_big h x; omega
    obtain ⟨c, r, rfl⟩ : ∃ c r, l = c :: r := by
      cases l with
      | nil => exact absurd rfl h
      | cons c r => exact ⟨c, r, rfl⟩
    have hu := b0_unit h hb
    have hpt := ptsAscii r (c := c) hb
    rw [ptsCons h, hu.1] at hpt
    injection hpt with hp1 hp2
    have hc : c = 92 := UInt8.toNat_inj.1 (by have : (92 : UInt8).toNat = 92 := rfl; omega)
    rw [hu.1] at i1 i2 hple hpl ⊢
    simp only [List.drop_succ_cons, List.drop_zero] at i1 i2 hple hpl ⊢
    by_cases ha : trail (pts r) = (pts r).length
    · have hb2 := i2 ha
      rw [if_pos ⟨h92, ha⟩, trailB, if_pos ⟨hc, hb2⟩, i1]
      exact ⟨rfl, fun _ => by rw [hb2]; rfl⟩
    · have hb2 : trailB r ≠ r.length := by
        intro e
        apply ha
        have e2 := trailB_all r e
        rw [e2, (trail_rep _).1, (trail_rep _).2, List.length_replicate]
      rw [if_neg (fun x => ha x.2), trailB, if_neg (fun x => hb2 x.2), i1]
      refine ⟨rfl, fun e => ?_⟩
      exfalso
      rw [List.length_cons] at e
      omega
  · rw [if_neg (fun x => h92 x.1)]
    by_cases hb2 : trailB (l.drop (dw l)) = (l.drop (dw l)).length
    · -- the unit's last byte is no \
      have hlast : ∃ a c, l.take (dw l) = a ++ [c] ∧ c ≠ 92 := by
        have hne := takeNe h hp
        refine ⟨(l.take (dw l)).dropLast, (l.take (dw l)).getLast hne, (List.dropLast_concat_getLast hne).symm, ?_⟩
        intro e
        have hmem := List.getLast_mem hne
        rw [e] at hmem
        by_cases hb : b0 l < 128
        · have hu := b0_unit h hb
          obtain ⟨c, r, rfl⟩ : ∃ c r, l = c :: r := by
            cases l with
            | nil => exact absurd rfl h
            | cons c r => exact ⟨c, r, rfl⟩
          rw [hu.1] at hmem
          simp only [List.take_succ_cons, List.take_zero, List.mem_singleton] at hmem
          subst hmem
          have hpt := ptsAscii r (c := 92) (by decide)
          rw [ptsCons h] at hpt
          injection hpt with hp1 hp2
          exact h92 hp1
        · have := unitPlain h (by omega) 92 hmem
          simp [sp] at this
      obtain ⟨a, c, e1, e2⟩ := hlast
      have e3 : trailB l = trailB (l.drop (dw l)) := by
        conv => lhs; rw [eu, e1, List.append_assoc]
        exact trailB_last a _ e2 hb2
      rw [e3]
      refine ⟨i1, fun e => ?_⟩
      exfalso
      rw [List.length_cons] at e
      omega
    · have e3 : trailB l = trailB (l.drop (dw l)) := by
        conv => lhs; rw [eu]
        exact trailB_app _ hb2
      rw [e3]
      refine ⟨i1, fun e => ?_⟩
      exfalso
      rw [List.length_cons] at e
      omega
end Go.Proofs.YtlomjbfhalmalaaGreatDoor.M
set_option linter.unusedVariables false
set_option linter.unusedSimpArgs false
namespace Go.Proofs.YtlomjbfhalmalaaGreatDoor.C
open Go Go.RowKit Go.Shelf Go.Proofs.YtlomjbfhalmalaaGreatDoor.M Go.Proofs.YtlomjbfhalmalaaGreatDoor.Z Go.Proofs.YtlomjbfhalmalaaGreatDoor.H Go.Proofs.YtlomjbfhalmalaaGreatDoor.PAll Go.Proofs.YtlomjbfhalmalaaGreatDoorW.PrintWords Go.Proofs.YtlomjbfhalmalaaGreatDoorW.PrintLast Go.Proofs.YtlomjbfhalmalaaGreatDoorW.PrintMore
theorem trailB_rep : ∀ n, trailB (List.replicate n 92) = n
  | 0 => rfl
  | n + 1 => by rw [List.replicate_succ, trailB, trailB_rep n, if_pos ⟨rfl, by rw [List.length_replicate]⟩]
theorem tmod_odd (n : Nat) : ((Int.tmod (n : Int) 2) == 1) = decide (n % 2 = 1) := by
  rw [Int.tmod_eq_emod_of_nonneg (by omega)]
  by_cases h : n % 2 = 1
  · rw [decide_eq_true h]; exact beq_iff_eq.2 (by omega)
  · rw [decide_eq_false h]; exact beq_eq_false_iff_ne.2 (by omega)
theorem open_l0 (s : ByteArray) (hs : s.size ≤ 1000000) : ∀ m n : Nat, n + m = s.size → (bl s).drop m = List.replicate n 92 → glossarylaw28_open.l0 (m + 1) s n = some (decide (trailB (bl s) % 2 = 1))
  | 0, n, h, hd => by
    unfold glossarylaw28_open.l0
    rw [if_neg (by omega), tmod_odd]
    rw [List.drop_zero] at hd
    rw [hd, trailB_rep]
  | m + 1, n, h, hd => by
    have hm : m < (bl s).length := by rw [bl_len]; omega
    have e1 : (bl s).drop m = (bl s)[m] :: List.replicate n 92 := by rw [List.drop_eq_getElem_cons hm, hd]
    have ei : wrap64 (wrap64 ((s.size : Int) - 1) - (n : Int)) = ((m : Nat) : Int) := by rw [w64 (x := (s.size : Int) - 1) (by omega) (by omega), w64 (by omega) (by omega)]; omega
    unfold glossarylaw28_open.l0
    rw [if_pos (by omega), ei, if_pos (by omega), if_pos (by omega), bt_eq (by rw [bl_len] at hm; exact hm), e1]
    have eb : b0 ((bl s)[m] :: List.replicate n 92) = ((bl s)[m]).toNat := rfl
    rw [eb]
    by_cases hc : (bl s)[m] = 92
    · rw [if_pos (by rw [hc]; rfl), wi n (by omega)]
      exact open_l0 s hs m (n + 1) (by omega) (by rw [e1, hc]; rfl)
    · rw [if_neg (fun e => hc (UInt8.toNat_inj.1 (by have : (92 : UInt8).toNat = 92 := rfl; omega))), tmod_odd]
      have : trailB (bl s) = n := by
        conv => lhs; rw [← List.take_append_drop m (bl s), e1]
        rw [trailB_last _ _ hc (by rw [trailB_rep, List.length_replicate]), trailB_rep]
      rw [this]
theorem open_any (s : ByteArray) (hs : s.size ≤ 1000000) (w : World) :
    Calls Tryz.prog 35 #[.string s] w fun e w' => e = .returned (.bool (opn (pts (bl s)))) ∧ Below w.heap.size w w' := by
  have h := open_l0 s hs s.size 0 (by omega) (by rw [List.drop_eq_nil_of_le (by rw [bl_len]; omega)]; rfl)
  have e : decide (trailB (bl s) % 2 = 1) = opn (pts (bl s)) := by rw [opn_trail _ _ (Nat.le_refl _), (trail_pts (bl s)).1]
  rw [e] at h
  exact (glossarylaw28_open.calls (s.size + 1) s _ w h).mono fun e w' h => ⟨h.1, Drawn0.below h.2⟩
theorem joined_any (A1 A2 : Option Addr) (c1 c2 n1 n2 : Nat) (xs ys : List Int) (w : World) (hx : RdG w A1 .i32 xs) (hy : RdG w A2 .i32 ys) (e1 : n1 = xs.length) (e2 : n2 = ys.length) (k1 : n1 ≤ c1) (k2 : n2 ≤ c2) (l1 : xs.length ≤ 1000000) (l2 : ys.length ≤ 1000000) :
    Calls Tryz.prog 36 #[.slice A1 n1 c1, .slice A2 n2 c2] w fun e w' => ∃ A c, e = .returned (.slice A (xs ++ ys).length c) ∧ (xs ++ ys).length ≤ c ∧ RdG w' A .i32 (xs ++ ys) ∧ Below w.heap.size w w' := by
  subst e1 e2
  have h : glossarylaw28_joined.f xs ys = some (xs ++ ys) := by
    unfold glossarylaw28_joined.f
    rw [if_pos (by simp only [List.length_nil]; omega), Option.bind_some, if_pos (by simp only [List.nil_append]; omega), List.nil_append]
  refine (glossarylaw28_joined.calls A1 c1 xs A2 c2 ys _ w (hx.C l1) k1 (hy.C l2) k2 h).mono fun e w' ⟨v, he, hr, hb⟩ => ?_
  obtain ⟨A, c, rfl, hl, hg⟩ := (R_row hr).readsG
  exact ⟨A, c, he, hl, hg, hb⟩
def cutAny (PT RT : List Tk) (X : List Int) : Nat → Bool
  | 0 => glob PT X && glob RT []
  | i + 1 => cutAny PT RT X i || (glob PT (X.take i) && glob RT (X.drop i))
theorem cutAny_iff (PT RT : List Tk) (X : List Int) : ∀ i, cutAny PT RT X i = true ↔ (glob PT X = true ∧ glob RT [] = true) ∨ ∃ j, j < i ∧ glob PT (X.take j) = true ∧ glob RT (X.drop j) = true
  | 0 => by simp [cutAny]
  | i + 1 => by
    rw [cutAny, Bool.or_eq_true, cutAny_iff PT RT X i, Bool.and_eq_true]
    constructor
    · rintro ((h | ⟨j, hj, h⟩) | h)
      · exact .inl h
      · exact .inr ⟨j, by omega, h⟩
      · exact .inr ⟨i, by omega, h⟩
    · rintro (h | ⟨j, hj, h⟩)
      · exact .inl (.inl h)
      · rcases Nat.lt_or_ge j i with h' | h'
        · exact .inl (.inr ⟨j, h', h⟩)
        · have : j = i := by omega
          subst this; exact .inr h
theorem cutAny_all (PT RT : List Tk) (X : List Int) : cutAny PT RT X X.length = glob (PT ++ RT) X := by
  rw [Bool.eq_iff_iff, cutAny_iff, glob_append]
  constructor
  · rintro (⟨h1, h2⟩ | ⟨j, hj, h1, h2⟩)
    · exact ⟨X.length, Nat.le_refl _, by rw [List.take_length]; exact h1, by rw [List.drop_length]; exact h2⟩
    · exact ⟨j, by omega, h1, h2⟩
  · rintro ⟨n, hn, h1, h2⟩
    rcases Nat.lt_or_ge n X.length with h' | h'
    · exact .inr ⟨n, h', h1, h2⟩
    · have : n = X.length := by omega
      subst this
      rw [List.take_length] at h1
      rw [List.drop_length] at h2
      exact .inl ⟨h1, h2⟩
theorem isEmpty_pts (l : List UInt8) : (pts l).isEmpty = l.isEmpty := by
  by_cases h : l = []
  · subst h; rw [ptsNil]; rfl
  · rw [ptsCons h]
    cases l with
    | nil => exact absurd rfl h
    | cons a b => rfl
theorem tl_ba (l : List UInt8) : (ba l).toList = l := by rw [ByteArray.toList_eq]; exact bl_ba l
theorem unit_own {t : List UInt8} (h : t ≠ []) : t.take (dw t) = [42] ∨ t.take (dw t) = [63] ∨ t.take (dw t) = [92] ∨ (t.take (dw t) ≠ [42] ∧ t.take (dw t) ≠ [63] ∧ t.take (dw t) ≠ [92] ∧ ownb (t.take (dw t)) = t.take (dw t)) := by
  by_cases hb : b0 t < 128
  · have hu := b0_unit h hb
    obtain ⟨c, r, rfl⟩ : ∃ c r, t = c :: r := by
      cases t with
      | nil => exact absurd rfl h
      | cons c r => exact ⟨c, r, rfl⟩
    rw [hu.1]
    simp only [List.take_succ_cons, List.take_zero]
    by_cases h1 : c = 42
    · exact .inl (by rw [h1])
    · by_cases h2 : c = 63
      · exact .inr (.inl (by rw [h2]))
      · by_cases h3 : c = 92
        · exact .inr (.inr (.inl (by rw [h3])))
        · refine .inr (.inr (.inr ⟨by simpa using h1, by simpa using h2, by simpa using h3, ownb_plain _ ?_⟩))
          intro x hx
          rw [List.mem_singleton.1 hx]
          simp [sp, h1, h2, h3]
  · have hp := unitPlain h (by omega)
    refine .inr (.inr (.inr ⟨?_, ?_, ?_, ownb_plain _ hp⟩))
    all_goals
      intro e
      rw [e] at hp
      have := hp _ (List.mem_singleton.2 rfl)
      simp [sp] at this
end Go.Proofs.YtlomjbfhalmalaaGreatDoor.C
set_option linter.unusedVariables false
set_option linter.unusedSimpArgs false
namespace Go.Proofs.YtlomjbfhalmalaaGreatDoor.C
open Go Go.RowKit Go.Shelf Go.Proofs.YtlomjbfhalmalaaGreatDoor.M Go.Proofs.YtlomjbfhalmalaaGreatDoor.Z Go.Proofs.YtlomjbfhalmalaaGreatDoor.H Go.Proofs.YtlomjbfhalmalaaGreatDoor.PAll Go.Proofs.YtlomjbfhalmalaaGreatDoorW.PrintWords Go.Proofs.YtlomjbfhalmalaaGreatDoorW.PrintLast Go.Proofs.YtlomjbfhalmalaaGreatDoorW.PrintMore
attribute [local go_sem] max2_int min2_int max_two min_two
theorem like_at (s t : ByteArray) (P X : List Int) (hP : pts (bl s) = P) (hX : pts (bl t) = X) (r : Bool) (hr : glob (toks P) X = r) (w : World) (hs : s.size ≤ 1000000) (ht : t.size ≤ 1000000) :
    Calls Tryz.prog 18 #[.string s, .string t] w fun e w' => e = .returned (.bool r) ∧ Below w.heap.size w w' := by
  subst hP hX hr
  exact like_any s t w hs ht
set_option maxHeartbeats 8000000 in
set_option maxRecDepth 100000 in
theorem takes_any (w : World) (hT' : hT w) (hE : HE w) (p r t : ByteArray) (hp : p.size ≤ 140737488351232) (hr : r.size ≤ 140737488351232) (ht : t.size ≤ 140737488351232) :
    Calls Tryz.prog 10 #[.string p, .string r, .string t] w fun e w' => e = .returned (.bool true) ∧ Below w.heap.size w w' := by
  have hTE : ∀ W, Keeps none' w W → Calls Tryz.prog 17 #[] W fun e w' => e = .returned (.bool true) ∧ Below W.heap.size W w' := fun W k => works_any W (hT_keeps hT' k (fun h => h) (fun h => h)) (k.cell hE (fun h => h))
  clear hE
  have cW := hTE w (Keeps.refl _ _)
  have s1 : IntKind.i64.wrap ((p.size : Int) + (r.size : Int)) = (p.size : Int) + (r.size : Int) := wrap_in (by omega) (by omega)
  have s2 : IntKind.i64.wrap ((p.size : Int) + (r.size : Int) + (t.size : Int)) = (p.size : Int) + (r.size : Int) + (t.size : Int) := wrap_in (by omega) (by omega)
  by_cases hbig : (600 : Int) < (p.size : Int) + (r.size : Int) + (t.size : Int)
  · have hd : decide ((600 : Int) < (p.size : Int) + (r.size : Int) + (t.size : Int)) = true := decide_eq_true hbig
    clear hT'
    go_enter Tryz.func10, Tryz.ntmps10
    go_wp2_with fail
    refine cW.mono ?_
    rintro e w1 ⟨rfl, hb1⟩
    have c2 := hTE w1 (Keeps.of_below0 hb1)
    clear cW
    go_wp2_with fail
    refine c2.mono ?_
    rintro e w2 ⟨rfl, hb2⟩
    have fin : Below w.heap.size w w2 := hb1.trans (hb2.mono hb1.size)
    clear c2 hTE
    go_wp2_with fail
    go_ret
    exact ⟨rfl, fin⟩
  · have hd : decide ((600 : Int) < (p.size : Int) + (r.size : Int) + (t.size : Int)) = false := decide_eq_false hbig
    clear hTE
    have lo := ownb_len (bl t)
    have lx := pts_len (bl t)
    have lp := pts_len (bl p)
    have lr := pts_len (bl r)
    rw [bl_len] at lo lx lp lr
    have hop : (ba (ownb (bl t))).size ≤ 1000000 := by rw [ba_size]; omega
    obtain ⟨X, hX⟩ : ∃ X, pts (bl t) = X := ⟨_, rfl⟩
    obtain ⟨PX, hPX⟩ : ∃ X, pts (bl p) = X := ⟨_, rfl⟩
    obtain ⟨RX, hRX⟩ : ∃ X, pts (bl r) = X := ⟨_, rfl⟩
    obtain ⟨SX, hSX⟩ : ∃ X, pts (bl (p ++ r)) = X := ⟨_, rfl⟩
    have lz := pts_len (bl (p ++ r))
    rw [bl_len, ByteArray.size_append] at lz
    rw [hX] at lx
    rw [hPX] at lp
    rw [hRX] at lr
    rw [hSX] at lz
    have hpr : (p ++ r).size ≤ 1000000 := by rw [ByteArray.size_append]; omega
    have hOX : pts (bl (ba (ownb (bl t)))) = own X := by rw [bl_ba, pts_ownb, hX]
    have cL1 := fun W => like_at (ba (ownb (bl t))) t (own X) X hOX hX true (by rw [toks_own, glob_lits]; exact decide_eq_true rfl) W hop (by omega)
    have cL2 := fun W => like_at ⟨#[42]⟩ t [42] X (by decide +kernel) hX true (glob_all X) W (by decide) (by omega)
    have cL3 := fun W => like_at (ba (ownb (bl t))) r (own X) RX hOX hRX (decide (X = RX)) (by rw [toks_own, glob_lits]) W hop (by omega)
    have cL4 := fun W => like_at ⟨#[]⟩ t [] X (by decide +kernel) hX ((bl t).isEmpty) (by rw [glob_none, ← hX, isEmpty_pts]) W (by decide) (by omega)
    have cL5 := fun W => like_at p t PX X hPX hX _ rfl W (by omega) (by omega)
    have cL6 := fun W => like_at r ⟨#[]⟩ RX [] hRX (by decide +kernel) _ rfl W (by omega) (by decide)
    have cL7 := fun W => like_at (p ++ r) t SX X hSX hX _ rfl W hpr (by omega)
    have cX := fun W => of_row t X hX W (by omega)
    have cR := fun W => of_row r RX hRX W (by omega)
    have cP := fun W => of_row p PX hPX W (by omega)
    have cZ := fun W => of_row (p ++ r) SX hSX W hpr
    have cOp := fun W => open_any p (by omega) W
    rw [hPX] at cOp
    have cN := fun (W : World) (k : Keeps none' w W) (pos : Nat) (h : pos < t.size) => next_in t pos W (hT_keeps hT' k (fun h => h) (fun h => h)) h (by omega)
    have hTl : t.toList = bl t := ByteArray.toList_eq ..
    have HX := Lib.hid hX
    have HPX := Lib.hid hPX
    have HRX := Lib.hid hRX
    have Hsz := Lib.hid (show p.size ≤ 600 ∧ r.size ≤ 600 ∧ t.size ≤ 600 by omega)
    have Hlo := Lib.hid lo
    have hts : t.size ≤ 600 := by omega
    have Hlx := Lib.hid lx
    have Hlp := Lib.hid lp
    have Hlr := Lib.hid lr
    have Hlz := Lib.hid lz
    have HlX : X.length ≤ 1000000 := by omega
    have HlP : PX.length ≤ 1000000 := by omega
    have HlR : RX.length ≤ 1000000 := by omega
    have HlS : SX.length ≤ 1000000 := by omega
    clear hX hPX hRX hSX lo lx lp lr lz hOX hpr hop hT'
    go_enter Tryz.func10, Tryz.ntmps10
    go_wp2_with fail
    refine cW.mono ?_
    rintro e w1 ⟨rfl, hb1⟩
    clear cW
    have hlt1 := hb1.size
    go_wp2_with fail
    go_loopw [7] (fun v7 wr => ∃ pos : Nat, v7 = .string (ba (ownb ((bl t).take pos))) ∧ pos ≤ t.size ∧ wr.heap[w1.heap.size]? = some (.stringIter t pos) ∧ Below w.heap.size w wr) (fun _ wr => t.size - wr.iterPos w1.heap.size)
    case atStart =>
      refine ⟨0, rfl, Nat.zero_le _, ?_, ?_⟩
      · simpa using World.iter_heap w1 t 0
      · exact hb1.alloc hlt1 (.stringIter t 0)
    case round =>
      obtain ⟨pos, rfl, hps, hit, hbw⟩ := hrel
      by_cases hp : pos < t.size
      · obtain ⟨d, hd'⟩ : ∃ d, (bl t).drop pos = d := ⟨_, rfl⟩
        have hne : d ≠ [] := by rw [← hd']; exact bl_nonempty hp
        have hdc : Utf8.decode t pos = (dc d, dw d) := by rw [← hd']; exact (Lib.decodeL_drop t pos).symm
        have hnx : ∀ ty, (Instr.next (.pointer (some ⟨w1.heap.size, 0, none⟩)) true ty).run Tryz.prog wr = .ok (.tuple #[.bool true, .int .i64 pos, .int .i32 (dc d : Nat)]) (wr.iterAt w1.heap.size t (pos + dw d)) := fun ty => by
          have := Lib.run_next_any_at (P := Tryz.prog) wr w1.heap.size t pos ty hit hp
          rw [hdc] at this
          exact this
        have hw1 := dw_pos hne
        have hw2 := dw_len hne
        have hdl : d.length = t.size - pos := by rw [← hd', List.length_drop, bl_len]
        obtain ⟨W2, hW2⟩ : ∃ W2, wr.iterAt w1.heap.size t (pos + dw d) = W2 := ⟨_, rfl⟩
        have hit2 : W2.heap[w1.heap.size]? = some (.stringIter t (pos + dw d)) := by rw [← hW2]; exact Lib.iterAt_heap wr w1.heap.size t pos (pos + dw d) hit
        have hbw2 : Below w.heap.size w W2 := by rw [← hW2]; exact Lib.below_iterAt hbw hlt1 t _
        have cNx := cN W2 (Keeps.of_below0 hbw2) pos hp
        rw [hd'] at cNx
        rw [hW2] at hnx
        obtain ⟨u, hu⟩ : ∃ u, d.take (dw d) = u := ⟨_, rfl⟩
        have hex : t.extract pos (pos + dw d) = ba u := by
          rw [extract_ba (by omega), List.drop_take, hd', ← hu]
          congr 1
          rw [show pos + dw d - pos = dw d by omega]
        have htk : (bl t).take (pos + dw d) = (bl t).take pos ++ u := by rw [← hu, ← hd', List.take_add]
        have hul : u.length ≤ t.size - pos := by rw [← hu, List.length_take]; omega
        have hol : (ownb ((bl t).take pos)).length ≤ 1200 := by
          have h1 := ownb_len ((bl t).take pos)
          have h2 : ((bl t).take pos).length ≤ 600 := by rw [List.length_take, bl_len]; omega
          omega
        have e1 : IntKind.i64.wrap ((pos : Int) + (dw d : Nat)) = ((pos + dw d : Nat) : Int) := by rw [wrap_in (by omega) (by omega)]; omega
        have i1 : (pos : Int) ≤ ((pos + dw d : Nat) : Int) := by omega
        have i2 : ((pos + dw d : Nat) : Int) ≤ (t.size : Int) := by omega
        have i3 : (0 : Int) ≤ (pos : Int) := by omega
        have hq := unit_own hne
        rw [hu] at hq
        have Hpw := Lib.hid (show pos + dw d ≤ t.size by omega)
        have Hhit := Lib.hid hit
        have Hit2 := Lib.hid hit2
        have Htk := Lib.hid htk
        have Hm := Lib.hid (show t.size - (pos + dw d) < t.size - pos by omega)
        have hz1 : ¬ (9223372036854775807 < (ba (ownb ((bl t).take pos))).size + 1) := by rw [ba_size]; omega
        have hz2 : ¬ (9223372036854775807 < (ba (ownb ((bl t).take pos))).size + (ba u).size) := by rw [ba_size, ba_size]; omega
        have hz3 : ¬ (9223372036854775807 < (ba (ownb ((bl t).take pos)) ++ ⟨#[92]⟩).size + (ba u).size) := by rw [ByteArray.size_append, ba_size, ba_size]; show ¬ (_ < _ + 1 + _); omega
        have ea : ∀ v : List UInt8, ownb ((bl t).take pos) ++ v = ownb ((bl t).take pos ++ u) → ba (ownb ((bl t).take pos)) ++ ba v = ba (ownb ((bl t).take (pos + dw d))) := fun v h => by rw [ba_append, h, htk]
        have eb : ownb ((bl t).take pos ++ u) = ownb ((bl t).take pos) ++ ownb u := ownb_append _ _
        obtain ⟨U, hU⟩ : ∃ U, ba u = U := ⟨_, rfl⟩
        have hUl : U.toList = u := by rw [← hU]; exact tl_ba u
        rw [hU] at hex hz2 hz3
        obtain ⟨O, hO⟩ : ∃ O, ba (ownb ((bl t).take pos)) = O := ⟨_, rfl⟩
        rw [hO] at hz1 hz2 hz3 ea
        have fin : ∀ V : ByteArray, V = ba (ownb ((bl t).take (pos + dw d))) → ∀ W3, W3.heap[w1.heap.size]? = some (.stringIter t (pos + dw d)) → Below w.heap.size w W3 → ∃ pos' : Nat, (Value.string V) = .string (ba (ownb ((bl t).take pos'))) ∧ pos' ≤ t.size ∧ W3.heap[w1.heap.size]? = some (.stringIter t pos') ∧ Below w.heap.size w W3 := fun V hV W3 h1 h2 => ⟨_, by rw [hV], Hpw.out, h1, h2⟩
        rw [hO]
        have Hea := Lib.hid ea
        have Heb := Lib.hid eb
        have HU := Lib.hid hU
        clear hdc hit hd' hne hW2 cN cL1 cL2 cL3 cL4 cL5 cL6 cL7 cX cR cP cZ cOp htk eb ea hul hol hu hdl hw1 hw2 hU hO hit2
        rcases hq with rfl | rfl | rfl | ⟨n1, n2, n3, h4⟩
        · go_wp2_with fail
          refine cNx.mono ?_
          rintro e w3 ⟨rfl, hb3⟩
          have hit3 := (Keeps.of_below0 hb3).obj Hit2.out (fun h => h)
          have hbw3 := hbw2.trans (hb3.mono hbw2.size)
          clear cNx
          go_wp2
          go_roundw
          case rel =>
            refine fin _ ?_ _ hit3 hbw3
            rw [← HU.out, ByteArray.append_assoc, show (⟨#[92]⟩ : ByteArray) = ba [92] from rfl, ba_append]
            exact Hea.out _ (by rw [Heb.out]; rfl)
          case measure =>
            simp only [World.iterPos, hit3, Hhit.out]
            exact Hm.out
        · go_wp2_with fail
          refine cNx.mono ?_
          rintro e w3 ⟨rfl, hb3⟩
          have hit3 := (Keeps.of_below0 hb3).obj Hit2.out (fun h => h)
          have hbw3 := hbw2.trans (hb3.mono hbw2.size)
          clear cNx
          go_wp2
          go_roundw
          case rel =>
            refine fin _ ?_ _ hit3 hbw3
            rw [← HU.out, ByteArray.append_assoc, show (⟨#[92]⟩ : ByteArray) = ba [92] from rfl, ba_append]
            exact Hea.out _ (by rw [Heb.out]; rfl)
          case measure =>
            simp only [World.iterPos, hit3, Hhit.out]
            exact Hm.out
        · go_wp2_with fail
          refine cNx.mono ?_
          rintro e w3 ⟨rfl, hb3⟩
          have hit3 := (Keeps.of_below0 hb3).obj Hit2.out (fun h => h)
          have hbw3 := hbw2.trans (hb3.mono hbw2.size)
          clear cNx
          go_wp2
          go_roundw
          case rel =>
            refine fin _ ?_ _ hit3 hbw3
            rw [← HU.out, ByteArray.append_assoc, show (⟨#[92]⟩ : ByteArray) = ba [92] from rfl, ba_append]
            exact Hea.out _ (by rw [Heb.out]; rfl)
          case measure =>
            simp only [World.iterPos, hit3, Hhit.out]
            exact Hm.out
        · go_wp2_with fail
          refine cNx.mono ?_
          rintro e w3 ⟨rfl, hb3⟩
          have hit3 := (Keeps.of_below0 hb3).obj Hit2.out (fun h => h)
          have hbw3 := hbw2.trans (hb3.mono hbw2.size)
          clear cNx
          have q1 : ¬ U.toList = [42] := by rw [hUl]; exact n1
          have q2 : ¬ U.toList = [63] := by rw [hUl]; exact n2
          have q3 : ¬ U.toList = [92] := by rw [hUl]; exact n3
          have b1 : (U.toList == [42]) = false := beq_eq_false_iff_ne.2 q1
          have b2 : (U.toList == [63]) = false := beq_eq_false_iff_ne.2 q2
          have b3 : (U.toList == [92]) = false := beq_eq_false_iff_ne.2 q3
          have H4 := Lib.hid h4
          clear hUl n1 n2 n3 h4 q1 q2 q3
          go_wp2
          go_roundw
          case rel =>
            refine fin _ ?_ _ hit3 hbw3
            rw [← HU.out]
            exact Hea.out _ (by rw [Heb.out, H4.out])
          case measure =>
            simp only [World.iterPos, hit3, Hhit.out]
            exact Hm.out
      · have hnx : ∀ ty, (Instr.next (.pointer (some ⟨w1.heap.size, 0, none⟩)) true ty).run Tryz.prog wr = _ := fun ty => Lib.run_next_end_at wr w1.heap.size t pos ty hit hp
        have hpos : pos = t.size := by omega
        have htk : (bl t).take pos = bl t := List.take_of_length_le (by rw [bl_len]; omega)
        rw [htk]
        clear hps hit cN hpos htk hp
        go_wp2_with fail
        refine (cL1 _).mono ?_
        rintro e w2 ⟨rfl, hb2⟩
        have hbw := hbw.trans (hb2.mono hbw.size)
        clear hb2 cL1
        go_wp2_with fail
        refine (cL2 _).mono ?_
        rintro e w3 ⟨rfl, hb3⟩
        have hbw := hbw.trans (hb3.mono hbw.size)
        clear hb3 cL2
        go_wp2_with fail
        refine (cL3 _).mono ?_
        rintro e w4 ⟨rfl, hb4⟩
        have hbw := hbw.trans (hb4.mono hbw.size)
        clear hb4 cL3
        go_wp2_with fail
        refine (cX _).mono ?_
        rintro e w5 ⟨A1, c1, rfl, hc1, hr1, hb5⟩
        have hbw := hbw.trans (hb5.mono hbw.size)
        clear hb5 cX
        go_wp2_with fail
        refine (cR _).mono ?_
        rintro e w6 ⟨A2, c2, rfl, hc2, hr2, hb6⟩
        have hr1 := hr1.keeps0 (Keeps.of_below0 hb6)
        have hbw := hbw.trans (hb6.mono hbw.size)
        clear hb6
        go_wp2_with fail
        refine (same_any A1 A2 c1 c2 _ _ X RX _ hr1 hr2 rfl rfl hc1 hc2 HlX HlR).mono ?_
        rintro e w7 ⟨rfl, hb7⟩
        have hbw := hbw.trans (hb7.mono hbw.size)
        clear hb7 hr1 hr2
        go_wp2_with fail
        refine (cL4 _).mono ?_
        rintro e w8 ⟨rfl, hb8⟩
        have hbw := hbw.trans (hb8.mono hbw.size)
        clear hb8 cL4
        go_wp2_with fail
        refine (cOp _).mono ?_
        rintro e w9 ⟨rfl, hb9⟩
        have hbw := hbw.trans (hb9.mono hbw.size)
        clear hb9 cOp
        cases ho : opn PX with
        | true =>
          go_wp2_with fail
          go_ret
          exact ⟨rfl, hbw⟩
        | false =>
          go_wp2_with fail
          refine (cZ _).mono ?_
          rintro e w10 ⟨A3, c3, rfl, hc3, hr3, hb10⟩
          have hbw := hbw.trans (hb10.mono hbw.size)
          clear hb10 cZ
          go_wp2_with fail
          refine (cP _).mono ?_
          rintro e w11 ⟨A4, c4, rfl, hc4, hr4, hb11⟩
          have hr3 := hr3.keeps0 (Keeps.of_below0 hb11)
          have hbw := hbw.trans (hb11.mono hbw.size)
          clear hb11 cP
          go_wp2_with fail
          refine (cR _).mono ?_
          rintro e w12 ⟨A5, c5, rfl, hc5, hr5, hb12⟩
          have hr3 := hr3.keeps0 (Keeps.of_below0 hb12)
          have hr4 := hr4.keeps0 (Keeps.of_below0 hb12)
          have hbw := hbw.trans (hb12.mono hbw.size)
          clear hb12 cR
          go_wp2_with fail
          refine (joined_any A4 A5 c4 c5 _ _ PX RX _ hr4 hr5 rfl rfl hc4 hc5 HlP HlR).mono ?_
          rintro e w13 ⟨A6, c6, rfl, hc6, hr6, hb13⟩
          have hr3 := hr3.keeps0 (Keeps.of_below0 hb13)
          have hbw := hbw.trans (hb13.mono hbw.size)
          clear hb13 hr4 hr5
          go_wp2_with fail
          rw [List.length_append] at hc6
          refine (same_any A3 A6 c3 c6 SX.length (PX.length + RX.length) SX (PX ++ RX) _ hr3 hr6 rfl (by rw [List.length_append]) hc3 hc6 HlS (by rw [List.length_append]; have := Hlp.out; have := Hlr.out; omega)).mono ?_
          rintro e w14 ⟨rfl, hb14⟩
          have hbw := hbw.trans (hb14.mono hbw.size)
          clear hb14 hr3 hr6
          by_cases hj : SX = PX ++ RX
          · rw [decide_eq_true hj]
            have hfin : glob (toks SX) X = cutAny (toks PX) (toks RX) X X.length := by rw [cutAny_all, hj, toks_append RX _ PX (Nat.le_refl _) ho]
            have Hfin := Lib.hid hfin
            clear hfin hj ho
            go_wp2_with fail
            refine (cL5 _).mono ?_
            rintro e w15 ⟨rfl, hb15⟩
            have hbw := hbw.trans (hb15.mono hbw.size)
            clear hb15 cL5
            obtain ⟨g0, hg0⟩ : ∃ g0, glob (toks PX) X = g0 := ⟨_, rfl⟩
            obtain ⟨g1, hg1⟩ : ∃ g1, glob (toks RX) [] = g1 := ⟨_, rfl⟩
            have hc0 : cutAny (toks PX) (toks RX) X 0 = (g0 && g1) := by rw [cutAny, hg0, hg1]
            rw [hg0]
            rw [hg1] at cL6
            clear hg0 hg1
            cases g0 with
            | false =>
              have hlt15 : w.heap.size ≤ w15.heap.size := hbw.size
              go_wp2_with fail
              go_loopw [12] (fun v12 wr => ∃ (pos i : Nat), v12 = .bool (cutAny (toks PX) (toks RX) X i) ∧ pos ≤ t.size ∧ Hid (Ch (bl t) ((bl t).drop pos) ∧ (pts ((bl t).take pos)).length = i) ∧ wr.heap[w15.heap.size]? = some (.stringIter t pos) ∧ Below w.heap.size w wr) (fun _ wr => t.size - wr.iterPos w15.heap.size)
              case atStart =>
                refine ⟨0, 0, by rw [hc0] <;> rfl, Nat.zero_le _, ⟨Ch.refl _, by rw [List.take_zero, ptsNil]; rfl⟩, ?_, ?_⟩
                · simpa using World.iter_heap w15 t 0
                · exact hbw.alloc hbw.size (.stringIter t 0)
              case round =>
                obtain ⟨pos, i, rfl, hps, hci, hit, hbw⟩ := hrel
                by_cases hp : pos < t.size
                · obtain ⟨d, hd'⟩ : ∃ d, (bl t).drop pos = d := ⟨_, rfl⟩
                  have hne : d ≠ [] := by rw [← hd']; exact bl_nonempty hp
                  have hdc : Utf8.decode t pos = (dc d, dw d) := by rw [← hd']; exact (Lib.decodeL_drop t pos).symm
                  have hnx : ∀ ty, (Instr.next (.pointer (some ⟨w15.heap.size, 0, none⟩)) true ty).run Tryz.prog wr = .ok (.tuple #[.bool true, .int .i64 pos, .int .i32 (dc d : Nat)]) (wr.iterAt w15.heap.size t (pos + dw d)) := fun ty => by
                    have := Lib.run_next_any_at (P := Tryz.prog) wr w15.heap.size t pos ty hit hp
                    rw [hdc] at this
                    exact this
                  have hw1 := dw_pos hne
                  have hw2 := dw_len hne
                  have hdl : d.length = t.size - pos := by rw [← hd', List.length_drop, bl_len]
                  obtain ⟨W2, hW2⟩ : ∃ W2, wr.iterAt w15.heap.size t (pos + dw d) = W2 := ⟨_, rfl⟩
                  have hit2 : W2.heap[w15.heap.size]? = some (.stringIter t (pos + dw d)) := by rw [← hW2]; exact Lib.iterAt_heap wr w15.heap.size t pos (pos + dw d) hit
                  have hbw2 : Below w.heap.size w W2 := by rw [← hW2]; exact Lib.below_iterAt hbw (Nat.le_of_lt_succ (Nat.lt_succ_of_le (hlt15)) ) t _
                  rw [hW2] at hnx
                  have hle : pos ≤ (bl t).length := by rw [bl_len]; exact hps
                  have hA := ptsAt hle hci.out.1
                  rw [HX.out] at hA
                  have hci2 := hci.out.2
                  have ht1 : X.take i = pts ((bl t).take pos) := by rw [hA, ← hci2, List.take_left]
                  have ht2 : X.drop i = pts ((bl t).drop pos) := by rw [hA, ← hci2, List.drop_left]
                  have hch2 : Ch (bl t) ((bl t).drop (pos + dw d)) := by
                    have := Ch.unit hne
                    rw [← hd', List.drop_drop, hd'] at this
                    have h1 := hci.out.1
                    rw [hd'] at h1
                    exact h1.trans this
                  have hA2 := ptsAt (l := bl t) (n := pos + dw d) (by rw [bl_len]; omega) hch2
                  have hlen : (pts ((bl t).take (pos + dw d))).length = i + 1 := by
                    have h1 := congrArg List.length (hA.symm.trans (HX.out.symm.trans hA2))
                    rw [List.length_append, List.length_append, hd', ptsCons hne, List.length_cons, hci2, ← hd', List.drop_drop, hd'] at h1
                    omega
                  have cA := fun W => like_at p (t.extract 0 pos) PX (X.take i) HPX.out (by rw [ht1]; congr 1; rw [bl_ext]; simp) _ rfl W (by have := Hsz.out; omega) (by rw [ByteArray.size_extract]; omega)
                  have cB := fun W => like_at r (t.extract pos t.size) RX (X.drop i) HRX.out (by rw [ht2, bl_extract]) _ rfl W (by have := Hsz.out; omega) (by rw [ByteArray.size_extract]; omega)
                  have hstep : cutAny (toks PX) (toks RX) X (i + 1) = (cutAny (toks PX) (toks RX) X i || (glob (toks PX) (X.take i) && glob (toks RX) (X.drop i))) := rfl
                  obtain ⟨q0, hq0⟩ : ∃ q, cutAny (toks PX) (toks RX) X i = q := ⟨_, rfl⟩
                  obtain ⟨q1, hq1⟩ : ∃ q, glob (toks PX) (X.take i) = q := ⟨_, rfl⟩
                  obtain ⟨q2, hq2⟩ : ∃ q, glob (toks RX) (X.drop i) = q := ⟨_, rfl⟩
                  rw [hq0, hq1, hq2] at hstep
                  rw [hq0]
                  rw [hq1] at cA
                  rw [hq2] at cB
                  have i1 : (0 : Int) ≤ (pos : Int) := by omega
                  have i2 : (pos : Int) ≤ (t.size : Int) := by omega
                  have i3 : (0 : Int) ≤ (t.size : Int) := by omega
                  have Hst := Lib.hid hstep
                  have Hpw := Lib.hid (show pos + dw d ≤ t.size by omega)
                  have Hm := Lib.hid (show t.size - (pos + dw d) < t.size - pos by omega)
                  have Hhit := Lib.hid hit
                  have Hit2 := Lib.hid hit2
                  have Hci := Lib.hid (And.intro hch2 hlen)
                  clear hstep hq0 hq1 hq2 hit hit2 hdc hne hd' hw1 hw2 hdl hW2 hle hA hci2 ht1 ht2 hch2 hA2 hlen cL7 hci hps hp hc0
                  have fin : ∀ q : Bool, q = (q0 || (q1 && q2)) → ∀ W3, Keeps none' W2 W3 → Below w.heap.size w W3 → ∃ (pos' i' : Nat), (Value.bool q) = .bool (cutAny (toks PX) (toks RX) X i') ∧ pos' ≤ t.size ∧ Hid (Ch (bl t) ((bl t).drop pos') ∧ (pts ((bl t).take pos')).length = i') ∧ W3.heap[w15.heap.size]? = some (.stringIter t pos') ∧ Below w.heap.size w W3 := fun q hq W3 h1 h2 => ⟨_, i + 1, by rw [hq, Hst.out], Hpw.out, Hci.out, h1.obj Hit2.out (fun h => h), h2⟩
                  have ms : ∀ W3, Keeps none' W2 W3 → t.size - W3.iterPos w15.heap.size < t.size - wr.iterPos w15.heap.size := fun W3 h1 => by
                    have h3 := h1.obj Hit2.out (fun h => h)
                    simp only [World.iterPos, h3, Hhit.out]
                    exact Hm.out
                  cases q0 with
                  | true =>
                    go_wp2_with fail
                    exact ⟨fin true rfl W2 (Keeps.refl _ _) hbw2, ms W2 (Keeps.refl _ _)⟩
                  | false =>
                    go_wp2_with fail
                    refine (cA _).mono ?_
                    rintro e w17 ⟨rfl, hb17⟩
                    have hbw := hbw2.trans (hb17.mono hbw2.size)
                    have k17 := Keeps.of_below0 hb17
                    clear cA hb17
                    cases q1 with
                    | false =>
                      go_wp2_with fail
                      exact ⟨fin false rfl w17 k17 hbw, ms w17 k17⟩
                    | true =>
                      go_wp2_with fail
                      refine (cB _).mono ?_
                      rintro e w18 ⟨rfl, hb18⟩
                      have hbw := hbw.trans (hb18.mono hbw.size)
                      have k18 := k17.trans (Keeps.of_below0 hb18) (fun _ _ h => h)
                      clear cB hb18
                      go_wp2_with fail
                      exact ⟨fin q2 (by cases q2 <;> rfl) w18 k18 hbw, ms w18 k18⟩
                · have hnx : ∀ ty, (Instr.next (.pointer (some ⟨w15.heap.size, 0, none⟩)) true ty).run Tryz.prog wr = _ := fun ty => Lib.run_next_end_at wr w15.heap.size t pos ty hit hp
                  have hpos : pos = t.size := by omega
                  have hi : i = X.length := by
                    rw [← hci.out.2, hpos, List.take_of_length_le (by rw [bl_len]; omega), HX.out]
                  subst hi
                  rw [← Hfin.out]
                  obtain ⟨z, hz⟩ : ∃ z, glob (toks SX) X = z := ⟨_, rfl⟩
                  rw [hz] at cL7 ⊢
                  have hzz : (z == z) = true := beq_self_eq_true z
                  clear hz hps hit hpos hp hci hc0
                  go_wp2_with fail
                  refine (cL7 _).mono ?_
                  rintro e w17 ⟨rfl, hb17⟩
                  have hbw := hbw.trans (hb17.mono hbw.size)
                  clear hb17 cL7
                  go_wp2_with fail
                  go_ret
                  exact ⟨by first | rfl | (simp; done), hbw⟩
            | true =>
              go_wp2_with fail
              refine (cL6 _).mono ?_
              rintro e w16 ⟨rfl, hb16⟩
              have hbw := hbw.trans (hb16.mono hbw.size)
              clear hb16 cL6
              have hlt15 : w.heap.size ≤ w16.heap.size := hbw.size
              go_wp2_with fail
              go_loopw [12] (fun v12 wr => ∃ (pos i : Nat), v12 = .bool (cutAny (toks PX) (toks RX) X i) ∧ pos ≤ t.size ∧ Hid (Ch (bl t) ((bl t).drop pos) ∧ (pts ((bl t).take pos)).length = i) ∧ wr.heap[w16.heap.size]? = some (.stringIter t pos) ∧ Below w.heap.size w wr) (fun _ wr => t.size - wr.iterPos w16.heap.size)
              case atStart =>
                refine ⟨0, 0, by rw [hc0] <;> rfl, Nat.zero_le _, ⟨Ch.refl _, by rw [List.take_zero, ptsNil]; rfl⟩, ?_, ?_⟩
                · simpa using World.iter_heap w16 t 0
                · exact hbw.alloc hbw.size (.stringIter t 0)
              case round =>
                obtain ⟨pos, i, rfl, hps, hci, hit, hbw⟩ := hrel
                by_cases hp : pos < t.size
                · obtain ⟨d, hd'⟩ : ∃ d, (bl t).drop pos = d := ⟨_, rfl⟩
                  have hne : d ≠ [] := by rw [← hd']; exact bl_nonempty hp
                  have hdc : Utf8.decode t pos = (dc d, dw d) := by rw [← hd']; exact (Lib.decodeL_drop t pos).symm
                  have hnx : ∀ ty, (Instr.next (.pointer (some ⟨w16.heap.size, 0, none⟩)) true ty).run Tryz.prog wr = .ok (.tuple #[.bool true, .int .i64 pos, .int .i32 (dc d : Nat)]) (wr.iterAt w16.heap.size t (pos + dw d)) := fun ty => by
                    have := Lib.run_next_any_at (P := Tryz.prog) wr w16.heap.size t pos ty hit hp
                    rw [hdc] at this
                    exact this
                  have hw1 := dw_pos hne
                  have hw2 := dw_len hne
                  have hdl : d.length = t.size - pos := by rw [← hd', List.length_drop, bl_len]
                  obtain ⟨W2, hW2⟩ : ∃ W2, wr.iterAt w16.heap.size t (pos + dw d) = W2 := ⟨_, rfl⟩
                  have hit2 : W2.heap[w16.heap.size]? = some (.stringIter t (pos + dw d)) := by rw [← hW2]; exact Lib.iterAt_heap wr w16.heap.size t pos (pos + dw d) hit
                  have hbw2 : Below w.heap.size w W2 := by rw [← hW2]; exact Lib.below_iterAt hbw (Nat.le_of_lt_succ (Nat.lt_succ_of_le (hlt15)) ) t _
                  rw [hW2] at hnx
                  have hle : pos ≤ (bl t).length := by rw [bl_len]; exact hps
                  have hA := ptsAt hle hci.out.1
                  rw [HX.out] at hA
                  have hci2 := hci.out.2
                  have ht1 : X.take i = pts ((bl t).take pos) := by rw [hA, ← hci2, List.take_left]
                  have ht2 : X.drop i = pts ((bl t).drop pos) := by rw [hA, ← hci2, List.drop_left]
                  have hch2 : Ch (bl t) ((bl t).drop (pos + dw d)) := by
                    have := Ch.unit hne
                    rw [← hd', List.drop_drop, hd'] at this
                    have h1 := hci.out.1
                    rw [hd'] at h1
                    exact h1.trans this
                  have hA2 := ptsAt (l := bl t) (n := pos + dw d) (by rw [bl_len]; omega) hch2
                  have hlen : (pts ((bl t).take (pos + dw d))).length = i + 1 := by
                    have h1 := congrArg List.length (hA.symm.trans (HX.out.symm.trans hA2))
                    rw [List.length_append, List.length_append, hd', ptsCons hne, List.length_cons, hci2, ← hd', List.drop_drop, hd'] at h1
                    omega
                  have cA := fun W => like_at p (t.extract 0 pos) PX (X.take i) HPX.out (by rw [ht1]; congr 1; rw [bl_ext]; simp) _ rfl W (by have := Hsz.out; omega) (by rw [ByteArray.size_extract]; omega)
                  have cB := fun W => like_at r (t.extract pos t.size) RX (X.drop i) HRX.out (by rw [ht2, bl_extract]) _ rfl W (by have := Hsz.out; omega) (by rw [ByteArray.size_extract]; omega)
                  have hstep : cutAny (toks PX) (toks RX) X (i + 1) = (cutAny (toks PX) (toks RX) X i || (glob (toks PX) (X.take i) && glob (toks RX) (X.drop i))) := rfl
                  obtain ⟨q0, hq0⟩ : ∃ q, cutAny (toks PX) (toks RX) X i = q := ⟨_, rfl⟩
                  obtain ⟨q1, hq1⟩ : ∃ q, glob (toks PX) (X.take i) = q := ⟨_, rfl⟩
                  obtain ⟨q2, hq2⟩ : ∃ q, glob (toks RX) (X.drop i) = q := ⟨_, rfl⟩
                  rw [hq0, hq1, hq2] at hstep
                  rw [hq0]
                  rw [hq1] at cA
                  rw [hq2] at cB
                  have i1 : (0 : Int) ≤ (pos : Int) := by omega
                  have i2 : (pos : Int) ≤ (t.size : Int) := by omega
                  have i3 : (0 : Int) ≤ (t.size : Int) := by omega
                  have Hst := Lib.hid hstep
                  have Hpw := Lib.hid (show pos + dw d ≤ t.size by omega)
                  have Hm := Lib.hid (show t.size - (pos + dw d) < t.size - pos by omega)
                  have Hhit := Lib.hid hit
                  have Hit2 := Lib.hid hit2
                  have Hci := Lib.hid (And.intro hch2 hlen)
                  clear hstep hq0 hq1 hq2 hit hit2 hdc hne hd' hw1 hw2 hdl hW2 hle hA hci2 ht1 ht2 hch2 hA2 hlen cL7 hci hps hp hc0
                  have fin : ∀ q : Bool, q = (q0 || (q1 && q2)) → ∀ W3, Keeps none' W2 W3 → Below w.heap.size w W3 → ∃ (pos' i' : Nat), (Value.bool q) = .bool (cutAny (toks PX) (toks RX) X i') ∧ pos' ≤ t.size ∧ Hid (Ch (bl t) ((bl t).drop pos') ∧ (pts ((bl t).take pos')).length = i') ∧ W3.heap[w16.heap.size]? = some (.stringIter t pos') ∧ Below w.heap.size w W3 := fun q hq W3 h1 h2 => ⟨_, i + 1, by rw [hq, Hst.out], Hpw.out, Hci.out, h1.obj Hit2.out (fun h => h), h2⟩
                  have ms : ∀ W3, Keeps none' W2 W3 → t.size - W3.iterPos w16.heap.size < t.size - wr.iterPos w16.heap.size := fun W3 h1 => by
                    have h3 := h1.obj Hit2.out (fun h => h)
                    simp only [World.iterPos, h3, Hhit.out]
                    exact Hm.out
                  cases q0 with
                  | true =>
                    go_wp2_with fail
                    exact ⟨fin true rfl W2 (Keeps.refl _ _) hbw2, ms W2 (Keeps.refl _ _)⟩
                  | false =>
                    go_wp2_with fail
                    refine (cA _).mono ?_
                    rintro e w17 ⟨rfl, hb17⟩
                    have hbw := hbw2.trans (hb17.mono hbw2.size)
                    have k17 := Keeps.of_below0 hb17
                    clear cA hb17
                    cases q1 with
                    | false =>
                      go_wp2_with fail
                      exact ⟨fin false rfl w17 k17 hbw, ms w17 k17⟩
                    | true =>
                      go_wp2_with fail
                      refine (cB _).mono ?_
                      rintro e w18 ⟨rfl, hb18⟩
                      have hbw := hbw.trans (hb18.mono hbw.size)
                      have k18 := k17.trans (Keeps.of_below0 hb18) (fun _ _ h => h)
                      clear cB hb18
                      go_wp2_with fail
                      exact ⟨fin q2 (by cases q2 <;> rfl) w18 k18 hbw, ms w18 k18⟩
                · have hnx : ∀ ty, (Instr.next (.pointer (some ⟨w16.heap.size, 0, none⟩)) true ty).run Tryz.prog wr = _ := fun ty => Lib.run_next_end_at wr w16.heap.size t pos ty hit hp
                  have hpos : pos = t.size := by omega
                  have hi : i = X.length := by
                    rw [← hci.out.2, hpos, List.take_of_length_le (by rw [bl_len]; omega), HX.out]
                  subst hi
                  rw [← Hfin.out]
                  obtain ⟨z, hz⟩ : ∃ z, glob (toks SX) X = z := ⟨_, rfl⟩
                  rw [hz] at cL7 ⊢
                  have hzz : (z == z) = true := beq_self_eq_true z
                  clear hz hps hit hpos hp hci hc0
                  go_wp2_with fail
                  refine (cL7 _).mono ?_
                  rintro e w17 ⟨rfl, hb17⟩
                  have hbw := hbw.trans (hb17.mono hbw.size)
                  clear hb17 cL7
                  go_wp2_with fail
                  go_ret
                  exact ⟨by first | rfl | (simp; done), hbw⟩
          · rw [decide_eq_false hj]
            go_wp2_with fail
            go_ret
            exact ⟨rfl, hbw⟩
theorem law_QueryTakes (w : World) (hT : Lib.Utf8Tabs 1 2 w) (hE : HE w) (a : ByteArray) (ha : a.size ≤ 140737488351232) (b : ByteArray) (hb : b.size ≤ 140737488351232) (m : ByteArray) (hm : m.size ≤ 140737488351232) :
    Calls Tryz.prog 10 #[.string a, .string b, .string m] w fun e w' => e = .returned (.bool true) ∧ Below w.heap.size w w' :=
  takes_any w hT hE a b m ha hb hm
end Go.Proofs.YtlomjbfhalmalaaGreatDoor.C
