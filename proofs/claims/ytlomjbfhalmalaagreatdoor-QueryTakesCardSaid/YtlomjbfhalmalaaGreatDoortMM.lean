/-
  Of this seat's texts what the claim wants (printed by a program): MM.
-/
import Derived.Test.YtlomjbfhalmalaaGreatDoortMath1
import Derived.Lib.SpaceU
set_option linter.unusedVariables false
set_option linter.unusedSimpArgs false
set_option maxRecDepth 100000
namespace Go.Proofs.YtlomjbfhalmalaaGreatDoor.M
open Go Go.Lib
def leadN (c : Nat) : Nat := if c < 128 then 1 else if c < 194 then 0 else if c < 224 then 2 else if c < 240 then 3 else if c < 245 then 4 else 0
def leadLo (c : Nat) : Nat := if c = 224 then 160 else if c = 240 then 144 else 128
def leadHi (c : Nat) : Nat := if c = 237 then 159 else if c = 244 then 143 else 191
def bgN (b0 b1 b2 b3 : Nat) : Nat :=
  if leadN b0 ≤ 1 then leadN b0
  else if b1 < leadLo b0 ∨ leadHi b0 < b1 then 1
  else if leadN b0 ≤ 2 ∨ b2 < 128 ∨ 191 < b2 then 2
  else if leadN b0 ≤ 3 ∨ b3 < 128 ∨ 191 < b3 then 3
  else 4
def nb (l : List UInt8) : Nat := leadN (b0 l)
def bg (l : List UInt8) : Nat := bgN (b0 l) (l.getD 1 0).toNat (l.getD 2 0).toNat (l.getD 3 0).toNat
theorem leadN_le (c : Nat) : leadN c ≤ 4 := by unfold leadN; repeat' split
                                               all_goals omega
theorem leadLo_ge (c : Nat) : 128 ≤ leadLo c := by unfold leadLo; repeat' split
                                                   all_goals omega
theorem leadHi_le (c : Nat) : leadHi c ≤ 191 := by unfold leadHi; repeat' split
                                                   all_goals omega
theorem bgN_le (b0 b1 b2 b3 : Nat) : bgN b0 b1 b2 b3 ≤ leadN b0 := by
  unfold bgN
  repeat' split
  all_goals omega
theorem lead_first : ∀ c, c < 256 → (firstT c = 240 ∧ leadN c = 1 ∧ c < 128) ∨ (firstT c = 241 ∧ leadN c = 0) ∨ (firstT c < 240 ∧ firstT c % 8 = leadN c ∧ 2 ≤ leadN c ∧ accLo (firstT c / 16) = leadLo c ∧ accHi (firstT c / 16) = leadHi c) := by
  decide +kernel
theorem decodeN_bg (n b0 b1 b2 b3 : Nat) (hn : 1 ≤ n) (h0 : b0 < 256) (h1 : b1 < 256) (h2 : b2 < 256) (h3 : b3 < 256) (hk : bgN b0 b1 b2 b3 ≤ n) :
    ((bgN b0 b1 b2 b3 < leadN b0 ∨ leadN b0 = 0) ∧ decodeN n b0 b1 b2 b3 = (65533, 1)) ∨
    (bgN b0 b1 b2 b3 = leadN b0 ∧ 1 ≤ leadN b0 ∧ (decodeN n b0 b1 b2 b3).2 = leadN b0 ∧
      (decodeN n b0 b1 b2 b3).1 = (if leadN b0 = 1 then b0 else if leadN b0 = 2 then b0 % 32 * 64 + b1 % 64 else if leadN b0 = 3 then b0 % 16 * 4096 + b1 % 64 * 64 + b2 % 64 else b0 % 8 * 262144 + b1 % 64 * 4096 + b2 % 64 * 64 + b3 % 64)) := by
  have hle := leadN_le b0
  rcases lead_first b0 h0 with ⟨f, e, _⟩ | ⟨f, e⟩ | ⟨f, e, g2, e2, e3⟩
  · right
    have e2 : bgN b0 b1 b2 b3 = 1 := by unfold bgN; rw [e]; rfl
    rw [ascii_eq n b0 b1 b2 b3 f, e, e2]
    exact ⟨rfl, by omega, rfl, rfl⟩
  · left
    exact ⟨.inr e, bad_eq n b0 b1 b2 b3 h0 f⟩
  · have hs := slow_eq n b0 b1 b2 b3 hn h1 h2 h3 f
    rw [e, e2, e3] at hs
    rw [← hs]
    unfold bgN at hk ⊢
    unfold slowN
    generalize leadN b0 = L at *
    generalize leadLo b0 = lo at *
    generalize leadHi b0 = hi at *
    rw [if_neg (by omega)] at hk ⊢
    by_cases c1 : b1 < lo ∨ hi < b1
    · left
      rw [if_pos c1] at hk ⊢
      rw [if_pos c1]
      refine ⟨.inl (by omega), ?_⟩
      split <;> rfl
    · rw [if_neg c1] at hk ⊢
      rw [if_neg c1]
      by_cases l2 : L ≤ 2
      · right
        rw [if_pos (.inl l2)] at hk ⊢
        rw [if_pos l2]
        obtain rfl : L = 2 := by omega
        rw [if_neg (show ¬ n < 2 by omega)]
        exact ⟨rfl, by omega, rfl, rfl⟩
      · rw [if_neg l2]
        by_cases c2 : b2 < 128 ∨ 191 < b2
        · left
          rw [if_pos (.inr c2)] at hk ⊢
          rw [if_pos c2]
          refine ⟨.inl (by omega), ?_⟩
          split <;> rfl
        · have cc : ¬ (L ≤ 2 ∨ b2 < 128 ∨ 191 < b2) := by omega
          rw [if_neg cc] at hk ⊢
          rw [if_neg c2]
          by_cases l3 : L ≤ 3
          · right
            rw [if_pos (.inl l3)] at hk ⊢
            rw [if_pos l3]
            obtain rfl : L = 3 := by omega
            rw [if_neg (show ¬ n < 3 by omega)]
            exact ⟨rfl, by omega, rfl, rfl⟩
          · rw [if_neg l3]
            obtain rfl : L = 4 := by omega
            by_cases c3 : b3 < 128 ∨ 191 < b3
            · left
              rw [if_pos (.inr c3)] at hk ⊢
              rw [if_pos c3]
              refine ⟨.inl (by omega), ?_⟩
              split <;> rfl
            · right
              have cc : ¬ (4 ≤ 3 ∨ b3 < 128 ∨ 191 < b3) := by omega
              rw [if_neg cc] at hk ⊢
              rw [if_neg c3, if_neg (show ¬ n < 4 by omega)]
              exact ⟨rfl, by omega, rfl, rfl⟩
def bt (l : List UInt8) (i : Nat) : Nat := (l.getD i 0).toNat
theorem bt_lt (l : List UInt8) (i : Nat) : bt l i < 256 := (l.getD i 0).toNat_lt
theorem bt_out {l : List UInt8} {i : Nat} (h : l.length ≤ i) : bt l i = 0 := by unfold bt; rw [List.getD_eq_getElem?_getD, List.getElem?_eq_none h]; rfl
theorem bg_def (l : List UInt8) : bg l = bgN (bt l 0) (bt l 1) (bt l 2) (bt l 3) := rfl
theorem nb_def (l : List UInt8) : nb l = leadN (bt l 0) := rfl
theorem bg_nb (l : List UInt8) : bg l ≤ nb l := bgN_le _ _ _ _
theorem nb_le (l : List UInt8) : nb l ≤ 4 := leadN_le _
theorem bgN_len (b0 b1 b2 b3 : Nat) : (2 ≤ bgN b0 b1 b2 b3 → 128 ≤ b1 ∧ b1 ≤ 191) ∧ (3 ≤ bgN b0 b1 b2 b3 → 128 ≤ b2 ∧ b2 ≤ 191) ∧ (4 ≤ bgN b0 b1 b2 b3 → 128 ≤ b3 ∧ b3 ≤ 191) := by
  have h1 := leadLo_ge b0
  have h2 := leadHi_le b0
  have h3 := leadN_le b0
  unfold bgN
  generalize leadN b0 = L at *
  generalize leadLo b0 = lo at *
  generalize leadHi b0 = hi at *
  refine ⟨?_, ?_, ?_⟩
  all_goals
    repeat' split
    all_goals omega
theorem bg_cont {l : List UInt8} {i : Nat} (h1 : 1 ≤ i) (h : i < bg l) : 128 ≤ bt l i ∧ bt l i ≤ 191 := by
  have hb := bgN_len (bt l 0) (bt l 1) (bt l 2) (bt l 3)
  rw [← bg_def] at hb
  have := bg_nb l
  have := nb_le l
  have : i = 1 ∨ i = 2 ∨ i = 3 := by omega
  rcases this with rfl | rfl | rfl
  · exact hb.1 (by omega)
  · exact hb.2.1 (by omega)
  · exact hb.2.2 (by omega)
theorem bg_len {l : List UInt8} (hl : l ≠ []) : bg l ≤ l.length := by
  have h1 : 1 ≤ l.length := List.length_pos_iff.2 hl
  rcases Nat.lt_or_ge l.length (bg l) with h | h
  · have := bg_cont h1 h
    rw [bt_out (Nat.le_refl _)] at this
    omega
  · exact h
theorem ill_or {l : List UInt8} (hl : l ≠ []) : (ill l = true ∧ (bg l < nb l ∨ nb l = 0) ∧ dc l = 65533 ∧ dw l = 1) ∨
    (ill l = false ∧ bg l = nb l ∧ 1 ≤ nb l ∧ dw l = nb l ∧
      dc l = (if nb l = 1 then bt l 0 else if nb l = 2 then bt l 0 % 32 * 64 + bt l 1 % 64 else if nb l = 3 then bt l 0 % 16 * 4096 + bt l 1 % 64 * 64 + bt l 2 % 64 else bt l 0 % 8 * 262144 + bt l 1 % 64 * 4096 + bt l 2 % 64 * 64 + bt l 3 % 64)) := by
  have h1 : 1 ≤ l.length := List.length_pos_iff.2 hl
  have h := decodeN_bg l.length (bt l 0) (bt l 1) (bt l 2) (bt l 3) h1 (bt_lt _ _) (bt_lt _ _) (bt_lt _ _) (bt_lt _ _) (by rw [← bg_def]; exact bg_len hl)
  have e : decodeN l.length (bt l 0) (bt l 1) (bt l 2) (bt l 3) = decodeL l := (decodeL_N l).symm
  rw [e, ← bg_def, ← nb_def] at h
  rcases h with ⟨a, b⟩ | ⟨a, b, c, d⟩
  · left
    have e1 : dc l = 65533 := by unfold dc; rw [b]
    have e2 : dw l = 1 := by unfold dw; rw [b]
    exact ⟨by simp [ill, e1, e2], a, e1, e2⟩
  · right
    have c' : dw l = nb l := c
    have d' : dc l = _ := d
    refine ⟨?_, a, b, c', d'⟩
    cases hi : ill l with
    | false => rfl
    | true =>
      exfalso
      have hh : dc l = 65533 ∧ dw l = 1 := by simpa [ill] using hi
      rw [c'] at hh
      have hc := hh.1
      rw [d', if_pos hh.2] at hc
      have := bt_lt l 0
      omega
theorem ill_cont {l : List UInt8} (hl : l ≠ []) (h : 128 ≤ bt l 0 ∧ bt l 0 ≤ 191) : ill l = true ∧ nb l = 0 ∧ dw l = 1 := by
  have e : nb l = 0 := by rw [nb_def]; unfold leadN; rw [if_neg (by omega), if_pos (by omega)]
  rcases ill_or hl with ⟨a, _, _, d⟩ | ⟨_, _, a, _⟩
  · exact ⟨a, e, d⟩
  · omega
theorem bt_drop (l : List UInt8) (k i : Nat) : bt (l.drop k) i = bt l (k + i) := by
  unfold bt
  simp [List.getD_eq_getElem?_getD, List.getElem?_drop]
theorem bt_take {l : List UInt8} {k i : Nat} : bt (l.take k) i = if i < k then bt l i else 0 := by
  unfold bt
  simp only [List.getD_eq_getElem?_getD, List.getElem?_take]
  split <;> simp
theorem bg_take {l : List UInt8} {k : Nat} (hk : 1 ≤ k) : bg (l.take k) = min (bg l) k ∧ nb (l.take k) = nb l := by
  have e0 : bt (l.take k) 0 = bt l 0 := by rw [bt_take, if_pos (by omega)]
  refine ⟨?_, by rw [nb_def, nb_def, e0]⟩
  have e1 : bt (l.take k) 1 = if 1 < k then bt l 1 else 0 := bt_take
  have e2 : bt (l.take k) 2 = if 2 < k then bt l 2 else 0 := bt_take
  have e3 : bt (l.take k) 3 = if 3 < k then bt l 3 else 0 := bt_take
  have h1 := leadLo_ge (bt l 0)
  have h2 := leadHi_le (bt l 0)
  have h3 := leadN_le (bt l 0)
  rcases Nat.lt_or_ge 3 k with h | h
  · rw [if_pos (by omega)] at e1 e2 e3
    rw [bg_def, bg_def, e0, e1, e2, e3]
    have := bgN_le (bt l 0) (bt l 1) (bt l 2) (bt l 3)
    omega
  · have : k = 1 ∨ k = 2 ∨ k = 3 := by omega
    rcases this with rfl | rfl | rfl
    · rw [if_neg (by omega)] at e1 e2 e3
      rw [bg_def, bg_def, e0, e1, e2, e3]
      unfold bgN
      repeat' split
      all_goals omega
    · rw [if_pos (by omega)] at e1
      rw [if_neg (by omega)] at e2 e3
      rw [bg_def, bg_def, e0, e1, e2, e3]
      unfold bgN
      repeat' split
      all_goals omega
    · rw [if_pos (by omega)] at e1 e2
      rw [if_neg (by omega)] at e3
      rw [bg_def, bg_def, e0, e1, e2, e3]
      unfold bgN
      repeat' split
      all_goals omega
end Go.Proofs.YtlomjbfhalmalaaGreatDoor.M
set_option linter.unusedVariables false
set_option linter.unusedSimpArgs false
set_option maxRecDepth 100000
namespace Go.Proofs.YtlomjbfhalmalaaGreatDoor.M
open Go Go.Lib
def pl (l : List UInt8) : Nat := max 1 (bg l)
theorem pl_pos (l : List UInt8) : 1 ≤ pl l := Nat.le_max_left _ _
theorem pl_len {l : List UInt8} (h : l ≠ []) : pl l ≤ l.length := by
  have h1 : 1 ≤ l.length := List.length_pos_iff.2 h
  have := bg_len h
  unfold pl; omega
def pieces (l : List UInt8) : List (List UInt8 × Nat) :=
  if h : l = [] then [] else if ill l = true then (l, pl l) :: pieces (l.drop (pl l)) else pieces (l.drop (dw l))
termination_by l.length
decreasing_by
  · have h1 := pl_pos l
    have h2 := List.length_pos_iff.2 h
    simp; omega
  · have h1 := dw_pos h
    have h2 := List.length_pos_iff.2 h
    simp; omega
theorem pieces_nil : pieces [] = [] := by rw [pieces]; simp
theorem pieces_ill {l : List UInt8} (h : l ≠ []) (hi : ill l = true) : pieces l = (l, pl l) :: pieces (l.drop (pl l)) := by rw [pieces]; simp [h, hi]
theorem pieces_ok {l : List UInt8} (h : l ≠ []) (hi : ill l = false) : pieces l = pieces (l.drop (dw l)) := by rw [pieces]; simp [h, hi]
structure At (l r : List UInt8) (e : Nat) (got : List (List UInt8 × Nat)) : Prop where
  suf : ∃ p, r = l.drop p ∧ p + r.length = l.length
  le : e ≤ l.length
  out : l.length - r.length < e → pieces l = got ++ pieces (l.drop e) ∧ ∀ i, l.length - r.length ≤ i → i < e → 128 ≤ bt l i ∧ bt l i ≤ 191
  done : e ≤ l.length - r.length → pieces l = got ++ pieces r
theorem At.start (l : List UInt8) : At l l 0 [] := ⟨⟨0, by simp, by simp⟩, Nat.zero_le _, fun h => by omega, fun _ => by simp⟩
theorem At.next {l r : List UInt8} {p : Nat} (h : r = l.drop p) (hp : p + r.length = l.length) {w : Nat} (hw : w ≤ r.length) : r.drop w = l.drop (p + w) ∧ (p + w) + (r.drop w).length = l.length := by
  subst h
  rw [List.drop_drop]
  exact ⟨rfl, by simp; simp at hp hw; omega⟩
theorem At.skip {l r : List UInt8} {e : Nat} {got : List (List UInt8 × Nat)} (h : At l r e got) (hne : r ≠ []) (hlt : l.length - r.length < e) : At l (r.drop (dw r)) e got := by
  obtain ⟨p, hr, hp⟩ := h.suf
  have hpl : l.length - r.length = p := by omega
  obtain ⟨ho, hc⟩ := h.out hlt
  rw [hpl] at hc hlt
  have h0 := hc p (Nat.le_refl _) hlt
  have hb : bt r 0 = bt l p := by rw [hr, bt_drop, Nat.add_zero]
  obtain ⟨_, _, hd⟩ := ill_cont hne (by rw [hb]; exact h0)
  have h1 : 1 ≤ r.length := List.length_pos_iff.2 hne
  rw [hd]
  obtain ⟨e1, e2⟩ := At.next hr hp (w := 1) h1
  refine ⟨⟨p + 1, e1, e2⟩, h.le, fun hl => ⟨ho, fun i hi hie => hc i (by omega) hie⟩, fun hl => ?_⟩
  have : e = p + 1 := by omega
  rw [ho, this, e1]
theorem At.fin {l : List UInt8} {e : Nat} {got : List (List UInt8 × Nat)} (h : At l [] e got) : got = pieces l := by
  have hle := h.le
  have := h.done (by simpa using hle)
  rw [pieces_nil, List.append_nil] at this
  exact this.symm
end Go.Proofs.YtlomjbfhalmalaaGreatDoor.M
namespace Go.Proofs.YtlomjbfhalmalaaGreatDoor.M
open Go Go.Lib
end Go.Proofs.YtlomjbfhalmalaaGreatDoor.M
set_option linter.unusedVariables false
set_option linter.unusedSimpArgs false
set_option maxRecDepth 100000
namespace Go.Proofs.YtlomjbfhalmalaaGreatDoor.M
open Go Go.Lib
def endsC (l : List UInt8) (w : Nat) : Prop := w ≤ l.length ∧ 1 ≤ w ∧ nb (l.drop (l.length - w)) = w ∧ bg (l.drop (l.length - w)) = w
theorem drop_ne {l : List UInt8} {w : Nat} (h1 : 1 ≤ w) (h : w ≤ l.length) : l.drop (l.length - w) ≠ [] := by
  intro e; have := congrArg List.length e; simp at this; omega
theorem endsC.unit {l : List UInt8} {w : Nat} (h : endsC l w) : dw (l.drop (l.length - w)) = w ∧ ill (l.drop (l.length - w)) = false := by
  obtain ⟨h1, h2, h3, h4⟩ := h
  rcases ill_or (drop_ne h2 h1) with ⟨_, a, _⟩ | ⟨a, _, _, d, _⟩
  · omega
  · exact ⟨by rw [d, h3], a⟩
theorem endsC.bytes {l : List UInt8} {w : Nat} (h : endsC l w) : (∀ i, i < w - 1 → 128 ≤ bt l (l.length - 1 - i) ∧ bt l (l.length - 1 - i) ≤ 191) ∧ (1 < w → 192 ≤ bt l (l.length - w)) ∧ (w = 1 → bt l (l.length - 1) < 128) := by
  obtain ⟨h1, h2, h3, h4⟩ := h
  refine ⟨fun i hi => ?_, fun hw => ?_, fun hw => ?_⟩
  · have := bg_cont (l := l.drop (l.length - w)) (i := w - 1 - i) (by omega) (by omega)
    rw [bt_drop] at this
    have e : l.length - w + (w - 1 - i) = l.length - 1 - i := by omega
    rwa [e] at this
  · rw [nb_def, bt_drop, Nat.add_zero] at h3
    unfold leadN at h3
    repeat' split at h3
    all_goals omega
  · subst hw
    rw [nb_def, bt_drop, Nat.add_zero] at h3
    unfold leadN at h3
    repeat' split at h3
    all_goals omega
theorem units_ind {r : List UInt8} (hr : r ≠ []) {Q : List UInt8 → Prop} (h0 : Q r) (h1 : ∀ l, l ≠ [] → (∃ pre, sfx (l.drop (dw l)) = pre ++ sfx r) → Q (l.drop (dw l)) → Q l) : ∀ (pre : List (List UInt8)) (l : List UInt8), sfx l = pre ++ sfx r → Q l
  | [], l, h => by
    by_cases hl : l = []
    · subst hl; rw [sfx_nil, sfx_cons hr] at h; simp at h
    · rw [sfx_cons hl, sfx_cons hr, List.nil_append] at h
      injection h with h _
      rw [h]; exact h0
  | x :: pre, l, h => by
    by_cases hl : l = []
    · subst hl; rw [sfx_nil] at h; simp at h
    · rw [sfx_cons hl, List.cons_append] at h
      injection h with _ h
      exact h1 l hl ⟨pre, h⟩ (units_ind hr h0 h1 pre _ h)
theorem units_drop {l r : List UInt8} {pre : List (List UInt8)} (h : sfx l = pre ++ sfx r) (hr : r ≠ []) : r.length ≤ l.length ∧ r = l.drop (l.length - r.length) := by
  refine units_ind hr (Q := fun l => r.length ≤ l.length ∧ r = l.drop (l.length - r.length)) ⟨Nat.le_refl _, by simp⟩ (fun l hl _ ⟨h1, h2⟩ => ?_) pre l h
  have hw := dw_len hl
  rw [List.length_drop] at h1 h2
  refine ⟨by omega, ?_⟩
  rw [List.drop_drop] at h2
  have e : dw l + (l.length - dw l - r.length) = l.length - r.length := by omega
  rw [e] at h2
  exact h2
theorem endsC.whole {l : List UInt8} {m v : Nat} (h : endsC (l.take m) v) (hm : m ≤ l.length) : nb (l.drop (m - v)) = v ∧ bg (l.drop (m - v)) = v := by
  obtain ⟨h1, h2, h3, h4⟩ := h
  have hl : (l.take m).length = m := by rw [List.length_take]; omega
  rw [hl] at h1 h3 h4
  have e : (l.take m).drop (m - v) = (l.drop (m - v)).take v := by
    rw [List.drop_take]; congr 1; omega
  rw [e] at h3 h4
  obtain ⟨b1, b2⟩ := bg_take (l := l.drop (m - v)) (k := v) h2
  rw [b1] at h4
  rw [b2] at h3
  have := bg_nb (l.drop (m - v))
  exact ⟨h3, by omega⟩
end Go.Proofs.YtlomjbfhalmalaaGreatDoor.M
set_option linter.unusedVariables false
set_option linter.unusedSimpArgs false
set_option maxRecDepth 100000
namespace Go.Proofs.YtlomjbfhalmalaaGreatDoor.M
open Go Go.Lib
def mstep (l : List UInt8) (rep : Nat → List UInt8) (a : List UInt8 × Nat) (x : List UInt8 × Nat) : List UInt8 × Nat :=
  (a.1 ++ ((l.take (l.length - x.1.length)).drop a.2 ++ rep x.2), l.length - x.1.length + x.2)
def mfold (l : List UInt8) (rep : Nat → List UInt8) (pre : List (List UInt8 × Nat)) : List UInt8 × Nat := pre.foldl (mstep l rep) ([], 0)
theorem mfold_snoc (l : List UInt8) (rep : Nat → List UInt8) (pre : List (List UInt8 × Nat)) (x : List UInt8 × Nat) : mfold l rep (pre ++ [x]) = mstep l rep (mfold l rep pre) x := by
  unfold mfold; rw [List.foldl_append]; rfl
theorem sfx_rec {Q : List UInt8 → Prop} (h0 : Q []) (h1 : ∀ l, l ≠ [] → ill l = true → Q l) (h2 : ∀ l, l ≠ [] → ill l = false → Q (l.drop (dw l)) → Q l) : ∀ l, Q l := by
  intro l
  induction l using sfx_ind with
  | h0 => exact h0
  | h1 l hl ih =>
    cases hi : ill l with
    | true => exact h1 l hl hi
    | false => exact h2 l hl hi ih
theorem first_piece (r : List UInt8) : ∀ x more, pieces r = x :: more → ∃ k, x.1 = r.drop k ∧ k + x.1.length = r.length ∧ x.1 ≠ [] ∧ x.2 = pl x.1 ∧ more = pieces (x.1.drop x.2) := by
  induction r using sfx_rec with
  | h0 => intro x more h; rw [pieces_nil] at h; cases h
  | h1 l hl hi =>
    intro x more h
    rw [pieces_ill hl hi] at h
    injection h with h1 h2
    subst h1
    exact ⟨0, by simp, by simp, hl, rfl, h2.symm⟩
  | h2 l hl hi ih =>
    intro x more h
    rw [pieces_ok hl hi] at h
    obtain ⟨k, h1, h2, h3⟩ := ih x more h
    have hw := dw_len hl
    refine ⟨dw l + k, by rw [h1, List.drop_drop], ?_, h3⟩
    rw [List.length_drop] at h2
    omega
structure MAt (l : List UInt8) (rep : Nat → List UInt8) (pre : List (List UInt8 × Nat)) : Prop where
  rest : pieces l = pre ++ pieces (l.drop (mfold l rep pre).2)
  le : (mfold l rep pre).2 ≤ l.length
theorem MAt.start (l : List UInt8) (rep : Nat → List UInt8) : MAt l rep [] := ⟨by simp [mfold], Nat.zero_le _⟩
theorem MAt.next {l : List UInt8} {rep : Nat → List UInt8} {pre : List (List UInt8 × Nat)} {x : List UInt8 × Nat} (h : MAt l rep pre) (hp : (pre ++ [x]) <+: pieces l) :
    MAt l rep (pre ++ [x]) ∧ (mfold l rep pre).2 ≤ l.length - x.1.length ∧ x.1.length ≤ l.length ∧ x.2 ≤ x.1.length ∧ x.1 ≠ [] ∧ x.2 = pl x.1 ∧ ill x.1 = ill x.1 := by
  obtain ⟨t, ht⟩ := hp
  have hr := h.rest
  have hle := h.le
  rw [hr, List.append_assoc] at ht
  have ht2 := (List.append_cancel_left ht).symm
  rw [List.cons_append, List.nil_append] at ht2
  obtain ⟨k, h1, h2, h3, h4, h5⟩ := first_piece _ x t ht2
  rw [List.length_drop] at h2
  have hx2 : x.2 ≤ x.1.length := by rw [h4]; exact pl_len h3
  refine ⟨⟨?_, ?_⟩, by omega, by omega, hx2, h3, h4, rfl⟩
  · have e1 : l.length - x.1.length = (mfold l rep pre).2 + k := by omega
    have e : l.drop (l.length - x.1.length + x.2) = x.1.drop x.2 := by
      rw [e1]
      conv => rhs; rw [h1]
      rw [List.drop_drop, List.drop_drop]
      congr 1
      omega
    rw [mfold_snoc, hr, ht2, h5]
    simp only [mstep, List.append_assoc, List.cons_append, List.nil_append]
    rw [e]
  · rw [mfold_snoc]
    simp only [mstep]
    omega
end Go.Proofs.YtlomjbfhalmalaaGreatDoor.M
