/-
  Of this seat's texts what the claim wants (printed by a program): Math1.
-/
import Derived.Lib.TrimUEq
import Derived.Lib.DecodeNEq
import Derived.Lib.RuneCount
import Derived.Lib.RuneBytes
set_option linter.unusedVariables false
set_option linter.unusedSimpArgs false
set_option maxRecDepth 100000
namespace Go.Proofs.YtlomjbfhalmalaaGreatDoor.M
open Go Go.Lib
theorem decodeN_facts (n b0 b1 b2 b3 : Nat) (hn : 1 ≤ n) (h0 : b0 < 256) :
    1 ≤ (decodeN n b0 b1 b2 b3).2 ∧ (decodeN n b0 b1 b2 b3).2 ≤ 4 ∧ (decodeN n b0 b1 b2 b3).2 ≤ n ∧
    ((decodeN n b0 b1 b2 b3).1 < 55296 ∨ (57344 ≤ (decodeN n b0 b1 b2 b3).1 ∧ (decodeN n b0 b1 b2 b3).1 ≤ 1114111)) ∧
    ((decodeN n b0 b1 b2 b3).2 = 1 → (b0 < 128 ∧ (decodeN n b0 b1 b2 b3).1 = b0) ∨ (128 ≤ b0 ∧ (decodeN n b0 b1 b2 b3).1 = 65533)) ∧
    (2 ≤ (decodeN n b0 b1 b2 b3).2 → 128 ≤ b0 ∧ 128 ≤ (decodeN n b0 b1 b2 b3).1) ∧
    ((decodeN n b0 b1 b2 b3).1 = 65533 → (decodeN n b0 b1 b2 b3).2 = 1 ∨ (decodeN n b0 b1 b2 b3).2 = 3) := by
  unfold decodeN
  repeat' split
  all_goals (refine ⟨?_, ?_, ?_, ?_, ?_, ?_, ?_⟩ <;> simp <;> omega)
def dc (l : List UInt8) : Nat := (decodeL l).1
def dw (l : List UInt8) : Nat := (decodeL l).2
def b0 (l : List UInt8) : Nat := (l.getD 0 0).toNat
theorem u8_lt (x : UInt8) : x.toNat < 256 := x.toNat_lt
theorem d_facts {l : List UInt8} (h : l ≠ []) :
    1 ≤ dw l ∧ dw l ≤ 4 ∧ dw l ≤ l.length ∧ (dc l < 55296 ∨ (57344 ≤ dc l ∧ dc l ≤ 1114111)) ∧
    (dw l = 1 → (b0 l < 128 ∧ dc l = b0 l) ∨ (128 ≤ b0 l ∧ dc l = 65533)) ∧ (2 ≤ dw l → 128 ≤ b0 l ∧ 128 ≤ dc l) ∧ (dc l = 65533 → dw l = 1 ∨ dw l = 3) := by
  have hl : 1 ≤ l.length := List.length_pos_iff.2 h
  have := decodeN_facts l.length (l.getD 0 0).toNat (l.getD 1 0).toNat (l.getD 2 0).toNat (l.getD 3 0).toNat hl (u8_lt _)
  rw [← decodeL_N] at this
  exact this
theorem dw_pos {l : List UInt8} (h : l ≠ []) : 1 ≤ dw l := (d_facts h).1
theorem dw_len {l : List UInt8} (h : l ≠ []) : dw l ≤ l.length := (d_facts h).2.2.1
theorem ne_nil_of_lt {l : List UInt8} {p : Nat} (h : p < l.length) : l.drop p ≠ [] := by
  intro e; have := congrArg List.length e; simp at this; omega
def sfx (l : List UInt8) : List (List UInt8) := if h : l = [] then [] else l :: sfx (l.drop (dw l))
termination_by l.length
decreasing_by
  have h1 := dw_pos h
  have h2 := List.length_pos_iff.2 h
  simp; omega
theorem sfx_nil : sfx [] = [] := by rw [sfx]; simp
theorem sfx_cons {l : List UInt8} (h : l ≠ []) : sfx l = l :: sfx (l.drop (dw l)) := by rw [sfx]; simp [h]
theorem sfx_len (l : List UInt8) : (sfx l).length ≤ l.length := by
  suffices ∀ n (l : List UInt8), l.length ≤ n → (sfx l).length ≤ l.length from this _ l (Nat.le_refl _)
  intro n
  induction n with
  | zero => intro l hl; have : l = [] := List.eq_nil_of_length_eq_zero (by omega); subst this; simp [sfx_nil]
  | succ n ih =>
    intro l hl
    by_cases h : l = []
    · subst h; simp [sfx_nil]
    · rw [sfx_cons h]
      have h1 := dw_pos h
      have h2 := dw_len h
      have := ih (l.drop (dw l)) (by simp; omega)
      simp at this ⊢; omega
theorem sfx_ind {P : List UInt8 → Prop} (h0 : P []) (h1 : ∀ l, l ≠ [] → P (l.drop (dw l)) → P l) : ∀ l, P l := by
  suffices ∀ n (l : List UInt8), l.length ≤ n → P l from fun l => this _ l (Nat.le_refl _)
  intro n
  induction n with
  | zero => intro l hl; have : l = [] := List.eq_nil_of_length_eq_zero (by omega); subst this; exact h0
  | succ n ih =>
    intro l hl
    by_cases h : l = []
    · subst h; exact h0
    · refine h1 l h (ih _ ?_)
      have h1 := dw_pos h
      have h2 := dw_len h
      simp; omega
def ill (l : List UInt8) : Bool := decide (dc l = 65533 ∧ dw l = 1)
def pt (l : List UInt8) : Nat := if ill l = true then 1114112 + b0 l else dc l
def runes (l : List UInt8) : List Int := (sfx l).map fun t => (dc t : Int)
def pts (l : List UInt8) : List Int := (sfx l).map fun t => (pt t : Int)
theorem ill_b0 {l : List UInt8} (h : l ≠ []) (hi : ill l = true) : 128 ≤ b0 l ∧ b0 l < 256 := by
  have := d_facts h
  have e : dc l = 65533 ∧ dw l = 1 := by simpa [ill] using hi
  have hb : b0 l < 256 := u8_lt _
  omega
theorem runesFrom_eq (s : ByteArray) : ∀ (f p : Nat) (acc : Array Value), s.size ≤ p + f → (Conv.runesFrom s f p acc).toList = acc.toList ++ (runes (s.data.toList.drop p)).map (Value.int .i32) := by
  intro f
  induction f with
  | zero =>
    intro p acc hp
    have : s.data.toList.drop p = [] := List.drop_eq_nil_of_le (by have := Lib.size_eq s; omega)
    simp [Conv.runesFrom, this, runes, sfx_nil]
  | succ f ih =>
    intro p acc hp
    unfold Conv.runesFrom
    by_cases h : p < s.size
    · have hne : s.data.toList.drop p ≠ [] := ne_nil_of_lt (by rw [← Lib.size_eq]; exact h)
      have hd := decodeL_drop s p
      rw [if_pos h]
      have hw := dw_pos hne
      have e2 : (Utf8.decode s p).2 = dw (s.data.toList.drop p) := by rw [← hd]; rfl
      have e1 : (Utf8.decode s p).1 = dc (s.data.toList.drop p) := by rw [← hd]; rfl
      show (Conv.runesFrom s f (p + (Utf8.decode s p).2) (acc.push (.int .i32 (Int.ofNat (Utf8.decode s p).1)))).toList = _
      rw [ih _ _ (by rw [e2]; omega), e2, e1]
      simp only [runes]
      conv => rhs; rw [sfx_cons hne]
      simp [List.drop_drop]
    · rw [if_neg h]
      have : s.data.toList.drop p = [] := List.drop_eq_nil_of_le (by have := Lib.size_eq s; omega)
      simp [this, runes, sfx_nil]
theorem conv_runes (s : ByteArray) : (Conv.runesFrom s s.size 0 #[]).toList = (runes s.data.toList).map (Value.int .i32) := by
  have := runesFrom_eq s s.size 0 #[] (by omega)
  simpa using this
theorem conv_runes_size (s : ByteArray) : (Conv.runesFrom s s.size 0 #[]).size = (sfx s.data.toList).length := by
  have := congrArg List.length (conv_runes s)
  simpa [runes] using this
def enc (c : Nat) : List UInt8 := (Utf8.encode (c : Int)).data.toList
def okc (c : Nat) : Prop := c < 55296 ∨ (57344 ≤ c ∧ c ≤ 1114111)
theorem valid_of {c : Nat} (h : okc c) : Utf8.valid (c : Int) = true := by
  rw [validRune_eq]; unfold validRune okc at *
  exact decide_eq_true (by omega)
theorem enc_eq {c : Nat} (h : okc c) : enc c = if c < 128 then [UInt8.ofNat c] else if c < 2048 then [UInt8.ofNat (192 + c / 64), UInt8.ofNat (128 + c % 64)]
    else if c < 65536 then [UInt8.ofNat (224 + c / 4096), UInt8.ofNat (128 + c / 64 % 64), UInt8.ofNat (128 + c % 64)]
    else [UInt8.ofNat (240 + c / 262144), UInt8.ofNat (128 + c / 4096 % 64), UInt8.ofNat (128 + c / 64 % 64), UInt8.ofNat (128 + c % 64)] := by
  have hv := valid_of h
  simp only [enc, Utf8.encode, hv, if_true, Int.toNat_natCast]
  repeat' split
  all_goals first | rfl | (exfalso; omega)
theorem getD_cons0 (a : UInt8) (l : List UInt8) : (a :: l).getD 0 0 = a := rfl
theorem getD_cons1 (a b : UInt8) (l : List UInt8) : (a :: b :: l).getD 1 0 = b := rfl
theorem getD_cons2 (a b c : UInt8) (l : List UInt8) : (a :: b :: c :: l).getD 2 0 = c := rfl
theorem getD_cons3 (a b c d : UInt8) (l : List UInt8) : (a :: b :: c :: d :: l).getD 3 0 = d := rfl
theorem ofNat_toNat {n : Nat} (h : n < 256) : (UInt8.ofNat n).toNat = n := by simp; omega
theorem dec_enc {c : Nat} (h : okc c) (t : List UInt8) : decodeL (enc c ++ t) = (c, (enc c).length) := by
  rw [decodeL_N, enc_eq h]
  unfold okc at h
  by_cases h1 : c < 128
  · simp only [if_pos h1, List.cons_append, List.nil_append, getD_cons0, List.length_cons, ofNat_toNat (show c < 256 by omega)]
    simp [decodeN, h1]
  · by_cases h2 : c < 2048
    · simp only [if_neg h1, if_pos h2, List.cons_append, List.nil_append, getD_cons0, getD_cons1, List.length_cons, ofNat_toNat (show 192 + c / 64 < 256 by omega), ofNat_toNat (show 128 + c % 64 < 256 by omega)]
      unfold decodeN
      rw [if_neg (by omega), if_pos (by omega), if_pos (by omega)]
      simp; omega
    · by_cases h3 : c < 65536
      · simp only [if_neg h1, if_neg h2, if_pos h3, List.cons_append, List.nil_append, getD_cons0, getD_cons1, getD_cons2, List.length_cons, ofNat_toNat (show 224 + c / 4096 < 256 by omega), ofNat_toNat (show 128 + c / 64 % 64 < 256 by omega), ofNat_toNat (show 128 + c % 64 < 256 by omega)]
        unfold decodeN
        rw [if_neg (by omega), if_neg (by omega), if_pos (by omega), if_pos (by omega)]
        simp; omega
      · simp only [if_neg h1, if_neg h2, if_neg h3, List.cons_append, List.nil_append, getD_cons0, getD_cons1, getD_cons2, getD_cons3, List.length_cons, ofNat_toNat (show 240 + c / 262144 < 256 by omega), ofNat_toNat (show 128 + c / 4096 % 64 < 256 by omega), ofNat_toNat (show 128 + c / 64 % 64 < 256 by omega), ofNat_toNat (show 128 + c % 64 < 256 by omega)]
        unfold decodeN
        rw [if_neg (by omega), if_neg (by omega), if_neg (by omega), if_pos (by omega), if_pos (by omega)]
        simp; omega
theorem dc_enc {c : Nat} (h : okc c) (t : List UInt8) : dc (enc c ++ t) = c := by unfold dc; rw [dec_enc h]
theorem dw_enc {c : Nat} (h : okc c) (t : List UInt8) : dw (enc c ++ t) = (enc c).length := by unfold dw; rw [dec_enc h]
theorem okc_dc {l : List UInt8} (h : l ≠ []) : okc (dc l) := (d_facts h).2.2.2.1
theorem decodeN_bytes (n b0 b1 b2 b3 : Nat) (h0 : b0 < 256) (h1 : b1 < 256) (h2 : b2 < 256) (h3 : b3 < 256) :
    ((decodeN n b0 b1 b2 b3).1 = 65533 ∧ (decodeN n b0 b1 b2 b3).2 = 1) ∨ ((decodeN n b0 b1 b2 b3).2 = 1 ∧ (decodeN n b0 b1 b2 b3).1 < 128 ∧ b0 = (decodeN n b0 b1 b2 b3).1) ∨
    ((decodeN n b0 b1 b2 b3).2 = 2 ∧ ¬ (decodeN n b0 b1 b2 b3).1 < 128 ∧ (decodeN n b0 b1 b2 b3).1 < 2048 ∧ b0 = 192 + (decodeN n b0 b1 b2 b3).1 / 64 ∧ b1 = 128 + (decodeN n b0 b1 b2 b3).1 % 64) ∨
    ((decodeN n b0 b1 b2 b3).2 = 3 ∧ ¬ (decodeN n b0 b1 b2 b3).1 < 2048 ∧ (decodeN n b0 b1 b2 b3).1 < 65536 ∧ b0 = 224 + (decodeN n b0 b1 b2 b3).1 / 4096 ∧ b1 = 128 + (decodeN n b0 b1 b2 b3).1 / 64 % 64 ∧ b2 = 128 + (decodeN n b0 b1 b2 b3).1 % 64) ∨
    ((decodeN n b0 b1 b2 b3).2 = 4 ∧ ¬ (decodeN n b0 b1 b2 b3).1 < 65536 ∧ b0 = 240 + (decodeN n b0 b1 b2 b3).1 / 262144 ∧ b1 = 128 + (decodeN n b0 b1 b2 b3).1 / 4096 % 64 ∧ b2 = 128 + (decodeN n b0 b1 b2 b3).1 / 64 % 64 ∧ b3 = 128 + (decodeN n b0 b1 b2 b3).1 % 64) := by
  unfold decodeN
  repeat' split
  all_goals first
    | exact .inl ⟨rfl, rfl⟩
    | exact .inr (.inl ⟨rfl, by assumption, rfl⟩)
    | exact .inr (.inr (.inl ⟨rfl, by omega, by omega, by omega, by omega⟩))
    | exact .inr (.inr (.inr (.inl ⟨rfl, by omega, by omega, by omega, by omega, by omega⟩)))
    | exact .inr (.inr (.inr (.inr ⟨rfl, by omega, by omega, by omega, by omega, by omega⟩)))
theorem u8_of {x : UInt8} {n : Nat} (h : x.toNat = n) : UInt8.ofNat n = x := by rw [← h]; simp
theorem take_enc {l : List UInt8} (h : l ≠ []) (hi : ill l = false) : l.take (dw l) = enc (dc l) := by
  have hok := okc_dc h
  have hlen := dw_len h
  have hill : ¬ (dc l = 65533 ∧ dw l = 1) := by simpa [ill] using hi
  have hB := decodeN_bytes l.length _ _ _ _ (u8_lt (l.getD 0 0)) (u8_lt (l.getD 1 0)) (u8_lt (l.getD 2 0)) (u8_lt (l.getD 3 0))
  rw [← decodeL_N] at hB
  change (dc l = 65533 ∧ dw l = 1) ∨ (dw l = 1 ∧ dc l < 128 ∧ _ = dc l) ∨ (dw l = 2 ∧ ¬ dc l < 128 ∧ dc l < 2048 ∧ _ = 192 + dc l / 64 ∧ _ = 128 + dc l % 64) ∨ (dw l = 3 ∧ ¬ dc l < 2048 ∧ dc l < 65536 ∧ _ = 224 + dc l / 4096 ∧ _ = 128 + dc l / 64 % 64 ∧ _ = 128 + dc l % 64) ∨ (dw l = 4 ∧ ¬ dc l < 65536 ∧ _ = 240 + dc l / 262144 ∧ _ = 128 + dc l / 4096 % 64 ∧ _ = 128 + dc l / 64 % 64 ∧ _ = 128 + dc l % 64) at hB
  rw [enc_eq hok]
  generalize dc l = c at *
  generalize dw l = w at *
  rcases hB with hB | ⟨rfl, h1, e0⟩ | ⟨rfl, h1, h2, e0, e1⟩ | ⟨rfl, h1, h2, e0, e1, e2⟩ | ⟨rfl, h1, e0, e1, e2, e3⟩
  · exact absurd hB hill
  · rw [if_pos h1, u8_of e0]
    rcases l with _ | ⟨a, t⟩
    · simp at hlen
    · rfl
  · rw [if_neg h1, if_pos h2, u8_of e0, u8_of e1]
    rcases l with _ | ⟨a, _ | ⟨b, t⟩⟩
    · simp at hlen
    · simp at hlen
    · rfl
  · rw [if_neg (by omega), if_neg h1, if_pos h2, u8_of e0, u8_of e1, u8_of e2]
    rcases l with _ | ⟨a, _ | ⟨b, _ | ⟨d, t⟩⟩⟩
    · simp at hlen
    · simp at hlen
    · simp at hlen
    · rfl
  · rw [if_neg (by omega), if_neg (by omega), if_neg h1, u8_of e0, u8_of e1, u8_of e2, u8_of e3]
    rcases l with _ | ⟨a, _ | ⟨b, _ | ⟨d, _ | ⟨g, t⟩⟩⟩⟩
    · simp at hlen
    · simp at hlen
    · simp at hlen
    · simp at hlen
    · rfl
end Go.Proofs.YtlomjbfhalmalaaGreatDoor.M
