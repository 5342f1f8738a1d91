/-
  Of this seat's texts what the claim wants (printed by a program): H4.
-/
set_option linter.unusedVariables false
set_option linter.unusedSimpArgs false
namespace Go.Proofs.YtlomjbfhalmalaaGreatDoor.H
inductive Tk where
  | star | any | lit (c : Int)
deriving DecidableEq
def toks : List Int → List Tk
  | [] => []
  | [c] => [if c = 42 then .star else if c = 63 then .any else .lit c]
  | c :: d :: r => if c = 42 then .star :: toks (d :: r) else if c = 63 then .any :: toks (d :: r) else
    if c = 92 then .lit d :: toks r else .lit c :: toks (d :: r)
def fit : Tk → Int → Bool
  | .any, _ => true
  | .lit d, c => d == c
  | .star, _ => false
def sufAny (f : List Int → Bool) : List Int → Bool
  | [] => f []
  | c :: w => f (c :: w) || sufAny f w
def glob : List Tk → List Int → Bool
  | [], w => w.isEmpty
  | .star :: t, w => sufAny (glob t) w
  | .any :: t, [] => false
  | .any :: t, _ :: w => glob t w
  | .lit d :: t, [] => false
  | .lit d :: t, c :: w => d == c && glob t w
theorem glob_fit {k : Tk} {c : Int} {t : List Tk} {w : List Int} (h : k ≠ .star) : glob (k :: t) (c :: w) = (fit k c && glob t w) := by
  cases k with
  | star => exact absurd rfl h
  | any => simp [glob, fit]
  | lit d => simp [glob, fit]
theorem glob_short {k : Tk} {t : List Tk} (h : k ≠ .star) : glob (k :: t) [] = false := by
  cases k with
  | star => exact absurd rfl h
  | any => rfl
  | lit d => rfl
theorem sufAny_iff {f : List Int → Bool} {w : List Int} : sufAny f w = true ↔ ∃ n, n ≤ w.length ∧ f (w.drop n) = true := by
  induction w with
  | nil =>
    simp only [sufAny, List.length_nil, List.drop_nil]
    exact ⟨fun h => ⟨0, Nat.le_refl _, h⟩, fun ⟨_, _, h⟩ => h⟩
  | cons c w ih =>
    simp only [sufAny, Bool.or_eq_true, ih]
    constructor
    · rintro (h | ⟨n, hn, h⟩)
      · exact ⟨0, Nat.zero_le _, h⟩
      · exact ⟨n + 1, by simp only [List.length_cons]; omega, h⟩
    · rintro ⟨n, hn, h⟩
      cases n with
      | zero => exact .inl h
      | succ n => exact .inr ⟨n, by simp only [List.length_cons] at hn; omega, h⟩
def pref : List Tk → List Int → Option (List Int)
  | [], w => some w
  | _ :: _, [] => none
  | k :: t, c :: w => if fit k c = true then pref t w else none
theorem pref_drop : ∀ {L : List Tk} {w r : List Int}, pref L w = some r → r = w.drop L.length ∧ L.length ≤ w.length
  | [], w, r, h => by simp only [pref, Option.some.injEq] at h; exact ⟨h.symm, Nat.zero_le _⟩
  | k :: t, [], r, h => by simp [pref] at h
  | k :: t, c :: w, r, h => by
    simp only [pref] at h
    split at h
    · obtain ⟨a, b⟩ := pref_drop h
      exact ⟨a, by simp only [List.length_cons]; omega⟩
    · cases h
theorem glob_app : ∀ {L : List Tk} {P : List Tk} {w : List Int}, (∀ k ∈ L, k ≠ .star) → (glob (L ++ P) w = true ↔ ∃ r, pref L w = some r ∧ glob P r = true)
  | [], P, w, _ => by simp [pref]
  | k :: t, P, [], h => by
    rw [List.cons_append, glob_short (h k (List.mem_cons_self ..))]
    simp [pref]
  | k :: t, P, c :: w, h => by
    rw [List.cons_append, glob_fit (h k (List.mem_cons_self ..)), Bool.and_eq_true, glob_app (fun x hx => h x (List.mem_cons_of_mem _ hx))]
    simp only [pref]
    by_cases hf : fit k c = true
    · simp [hf]
    · simp [hf]
theorem pref_snoc : ∀ {L : List Tk} {w r : List Int} {k : Tk} {c : Int}, pref L w = some (c :: r) → fit k c = true → pref (L ++ [k]) w = some r
  | [], w, r, k, c, h, hf => by
    simp only [pref, Option.some.injEq] at h
    subst h
    simp [pref, hf]
  | l :: t, [], r, k, c, h, hf => by simp [pref] at h
  | l :: t, d :: w, r, k, c, h, hf => by
    simp only [pref, List.cons_append] at h ⊢
    split at h
    · rename_i hd
      rw [if_pos hd]; exact pref_snoc h hf
    · cases h
def alt : Option (List Tk × List Int) → Bool
  | some (Ps, _ :: w) => sufAny (glob Ps) w
  | _ => false
def Saved (P : List Tk) (W : List Int) : Option (List Tk × List Int) → Prop
  | none => True
  | some (Ps, Wb) => ∃ L, (∀ k ∈ L, k ≠ .star) ∧ Ps = L ++ P ∧ pref L Wb = some W
theorem alt_star {t : List Tk} {W : List Int} {S : Option (List Tk × List Int)} (h : Saved (.star :: t) W S) (ha : alt S = true) : glob (.star :: t) W = true := by
  match S, h, ha with
  | some (Ps, Wb), ⟨L, hL, hP, hp⟩, ha =>
    obtain ⟨hr, hl⟩ := pref_drop hp
    cases Wb with
    | nil => simp [alt] at ha
    | cons b Wb =>
      simp only [alt] at ha
      obtain ⟨n, hn, hg⟩ := sufAny_iff.1 ha
      rw [hP] at hg
      obtain ⟨r, hr2, hg2⟩ := (glob_app hL).1 hg
      obtain ⟨e2, l2⟩ := pref_drop hr2
      simp only [glob] at hg2 ⊢
      obtain ⟨m, hm, hg3⟩ := sufAny_iff.1 hg2
      refine sufAny_iff.2 ⟨1 + n + m, ?_, ?_⟩
      · rw [hr, List.length_drop, List.length_cons]
        rw [e2, List.length_drop, List.length_drop] at hm
        rw [List.length_drop] at l2
        omega
      · rw [hr, List.drop_drop]
        rw [e2, List.drop_drop, List.drop_drop] at hg3
        rw [show L.length + (1 + n + m) = (n + (L.length + m)) + 1 by omega, List.drop_succ_cons]
        exact hg3
theorem step_star {t : List Tk} {W : List Int} {S : Option (List Tk × List Int)} (h : Saved (.star :: t) W S) :
    (glob (.star :: t) W || alt S) = (glob t W || alt (some (t, W))) := by
  have e : glob (.star :: t) W = (glob t W || alt (some (t, W))) := by
    cases W with
    | nil => simp [glob, sufAny, alt]
    | cons c w => simp [glob, sufAny, alt]
  rw [← e]
  cases ha : alt S with
  | false => simp
  | true => rw [alt_star h ha]; rfl
theorem step_star_saved (t : List Tk) (W : List Int) : Saved t W (some (t, W)) := ⟨[], by simp, rfl, rfl⟩
theorem step_fit_saved {k : Tk} {t : List Tk} {c : Int} {W : List Int} {S : Option (List Tk × List Int)} (hk : k ≠ .star) (hf : fit k c = true) (h : Saved (k :: t) (c :: W) S) : Saved t W S := by
  match S, h with
  | none, _ => trivial
  | some (Ps, Wb), ⟨L, hL, hP, hp⟩ =>
    refine ⟨L ++ [k], fun x hx => ?_, by rw [hP]; simp, pref_snoc hp hf⟩
    rcases List.mem_append.1 hx with h1 | h1
    · exact hL x h1
    · rw [List.mem_singleton.1 h1]; exact hk
theorem step_back {Ps : List Tk} {b : Int} {Wb : List Int} : alt (some (Ps, b :: Wb)) = (glob Ps Wb || alt (some (Ps, Wb))) := by
  cases Wb with
  | nil => simp [alt, sufAny]
  | cons c w => simp [alt, sufAny]
theorem end_alt {P : List Tk} {S : Option (List Tk × List Int)} (h : Saved P [] S) : alt S = false := by
  match S, h with
  | none, _ => rfl
  | some (Ps, Wb), ⟨L, hL, hP, hp⟩ =>
    obtain ⟨hr, hl⟩ := pref_drop hp
    cases Wb with
    | nil => rfl
    | cons b Wb =>
      cases ha : alt (some (Ps, b :: Wb)) with
      | false => rfl
      | true =>
        simp only [alt] at ha
        obtain ⟨n, hn, hg⟩ := sufAny_iff.1 ha
        rw [hP] at hg
        obtain ⟨r, hr2, _⟩ := (glob_app hL).1 hg
        obtain ⟨_, l2⟩ := pref_drop hr2
        have h0 : ((b :: Wb).drop L.length).length = 0 := by rw [← hr]; rfl
        rw [List.length_drop, List.length_cons] at h0
        rw [List.length_drop] at l2
        omega
theorem glob_nil : ∀ P : List Tk, glob P [] = P.all (fun k => decide (k = .star))
  | [] => rfl
  | .star :: t => by simp [glob, sufAny, glob_nil t]
  | .any :: t => by simp [glob]
  | .lit d :: t => by simp [glob]
def rowStep (w : List Int) (k : Tk) (row : Nat → Bool) : Nat → Bool
  | 0 => match k with | .star => row 0 | _ => false
  | j + 1 => match k with
    | .star => row (j + 1) || rowStep w .star row j
    | .any => row j
    | .lit c => row j && (w[j]? == some c)
def rows (w : List Int) : List Tk → (Nat → Bool) → (Nat → Bool)
  | [], row => row
  | k :: T, row => rows w T (rowStep w k row)
end Go.Proofs.YtlomjbfhalmalaaGreatDoor.H
set_option linter.unusedVariables false
set_option linter.unusedSimpArgs false
namespace Go.Proofs.YtlomjbfhalmalaaGreatDoor.H
theorem glob_append : ∀ (A B : List Tk) (w : List Int), glob (A ++ B) w = true ↔ ∃ n, n ≤ w.length ∧ glob A (w.take n) = true ∧ glob B (w.drop n) = true
  | [], B, w => by
    rw [List.nil_append]
    constructor
    · intro h; exact ⟨0, Nat.zero_le _, rfl, h⟩
    · rintro ⟨n, hn, h0, h⟩
      have : (w.take n).length = 0 := by
        cases hw : w.take n with
        | nil => rfl
        | cons a b => rw [hw] at h0; simp [glob] at h0
      rw [List.length_take] at this
      have e : n = 0 := by omega
      rw [e] at h; exact h
  | .star :: t, B, w => by
    rw [List.cons_append, glob, sufAny_iff]
    constructor
    · rintro ⟨m, hm, h⟩
      obtain ⟨n, hn, h1, h2⟩ := (glob_append t B _).1 h
      rw [List.length_drop] at hn
      refine ⟨m + n, by omega, ?_, by rw [← List.drop_drop]; exact h2⟩
      rw [glob, sufAny_iff]
      refine ⟨m, by rw [List.length_take]; omega, ?_⟩
      rw [List.drop_take, show m + n - m = n by omega]; exact h1
    · rintro ⟨n, hn, h1, h2⟩
      rw [glob, sufAny_iff] at h1
      obtain ⟨m, hm, h1⟩ := h1
      rw [List.length_take] at hm
      refine ⟨m, by omega, (glob_append t B _).2 ⟨n - m, by rw [List.length_drop]; omega, ?_, ?_⟩⟩
      · rw [List.drop_take] at h1; exact h1
      · rw [List.drop_drop, show m + (n - m) = n by omega]; exact h2
  | .any :: t, B, [] => by
    constructor
    · intro h; simp [glob] at h
    · rintro ⟨n, hn, h, _⟩; simp [glob] at h
  | .any :: t, B, c :: w => by
    rw [List.cons_append, glob, glob_append t B w]
    constructor
    · rintro ⟨n, hn, h1, h2⟩
      exact ⟨n + 1, by simp only [List.length_cons]; omega, by rw [List.take_succ_cons, glob]; exact h1, h2⟩
    · rintro ⟨n, hn, h1, h2⟩
      cases n with
      | zero => simp [glob] at h1
      | succ n => exact ⟨n, by simp only [List.length_cons] at hn; omega, by rw [List.take_succ_cons, glob] at h1; exact h1, h2⟩
  | .lit d :: t, B, [] => by
    constructor
    · intro h; simp [glob] at h
    · rintro ⟨n, hn, h, _⟩; simp [glob] at h
  | .lit d :: t, B, c :: w => by
    rw [List.cons_append, glob, Bool.and_eq_true, glob_append t B w]
    constructor
    · rintro ⟨hd, n, hn, h1, h2⟩
      exact ⟨n + 1, by simp only [List.length_cons]; omega, by rw [List.take_succ_cons, glob, hd, h1]; rfl, h2⟩
    · rintro ⟨n, hn, h1, h2⟩
      cases n with
      | zero => simp [glob] at h1
      | succ n =>
        rw [List.take_succ_cons, glob, Bool.and_eq_true] at h1
        exact ⟨h1.1, n, by simp only [List.length_cons] at hn; omega, h1.2, h2⟩
def opn : List Int → Bool
  | [] => false
  | [c] => c == 92
  | c :: d :: r => if c = 92 then opn r else opn (d :: r)
theorem toks_42 (r : List Int) : toks (42 :: r) = .star :: toks r := by cases r <;> simp [toks]
theorem toks_63 (r : List Int) : toks (63 :: r) = .any :: toks r := by cases r <;> simp [toks]
theorem toks_esc (d : Int) (r : List Int) : toks (92 :: d :: r) = .lit d :: toks r := by simp [toks]
theorem toks_end : toks [92] = [.lit 92] := by simp [toks]
theorem toks_lit {c : Int} (r : List Int) (h1 : c ≠ 42) (h2 : c ≠ 63) (h3 : c ≠ 92) : toks (c :: r) = .lit c :: toks r := by
  cases r <;> simp [toks, h1, h2, h3]
theorem opn_lit {c : Int} (r : List Int) (h : c ≠ 92) : opn (c :: r) = opn r := by
  cases r with
  | nil => simp [opn, h]
  | cons d r => rw [opn, if_neg h]
theorem toks_append (r : List Int) : ∀ (n : Nat) (p : List Int), p.length ≤ n → opn p = false → toks (p ++ r) = toks p ++ toks r
  | n, [], _, _ => by simp [toks]
  | 0, c :: p, h, _ => by simp at h
  | n + 1, c :: p, h, ho => by
    simp only [List.length_cons] at h
    by_cases e : c = 92
    · subst e
      cases p with
      | nil => simp [opn] at ho
      | cons d p =>
        simp only [List.length_cons] at h
        simp only [opn, if_pos] at ho
        rw [List.cons_append, List.cons_append, toks_esc, toks_esc, toks_append r n p (by omega) ho]; rfl
    · rw [opn_lit p e] at ho
      have ih := toks_append r n p (by omega) ho
      by_cases e1 : c = 42
      · subst e1; rw [List.cons_append, toks_42, toks_42, ih]; rfl
      · by_cases e2 : c = 63
        · subst e2; rw [List.cons_append, toks_63, toks_63, ih]; rfl
        · rw [List.cons_append, toks_lit _ e1 e2 e, toks_lit _ e1 e2 e, ih]; rfl
def trail : List Int → Nat
  | [] => 0
  | c :: r => if c = 92 ∧ trail r = r.length then trail r + 1 else trail r
theorem trail_le : ∀ p, trail p ≤ p.length
  | [] => Nat.le_refl _
  | c :: r => by
    have := trail_le r
    rw [trail]; split <;> simp only [List.length_cons] <;> omega
theorem opn_trail : ∀ (n : Nat) (p : List Int), p.length ≤ n → opn p = decide (trail p % 2 = 1)
  | n, [], _ => by simp [opn, trail]
  | 0, c :: p, h => by simp at h
  | n + 1, c :: p, h => by
    simp only [List.length_cons] at h
    by_cases e : c = 92
    · subst e
      cases p with
      | nil => simp [opn, trail]
      | cons d p =>
        simp only [List.length_cons] at h
        have ih := opn_trail n p (by omega)
        have hl := trail_le p
        rw [opn, if_pos rfl, ih]
        by_cases ha : trail p = p.length
        · by_cases hd : d = 92
          · have t1 : trail (d :: p) = trail p + 1 := by rw [trail, if_pos ⟨hd, ha⟩]
            have t2 : trail (92 :: d :: p) = trail p + 2 := by rw [trail, if_pos ⟨rfl, by rw [t1, List.length_cons, ha]⟩, t1]
            rw [t2]; simp only [decide_eq_decide]; omega
          · have t1 : trail (d :: p) = trail p := by rw [trail, if_neg (fun x => hd x.1)]
            have t2 : trail (92 :: d :: p) = trail p := by rw [trail, if_neg (fun x => by rw [t1, List.length_cons] at x; omega), t1]
            rw [t2]
        · have t1 : trail (d :: p) = trail p := by rw [trail, if_neg (fun x => ha x.2)]
          have t2 : trail (92 :: d :: p) = trail p := by rw [trail, if_neg (fun x => by rw [t1, List.length_cons] at x; omega), t1]
          rw [t2]
    · rw [opn_lit p e, opn_trail n p (by omega)]
      have : trail (c :: p) = trail p := by rw [trail, if_neg (fun x => e x.1)]
      rw [this]
def own : List Int → List Int
  | [] => []
  | c :: r => if c = 42 ∨ c = 63 ∨ c = 92 then 92 :: c :: own r else c :: own r
theorem toks_own : ∀ w, toks (own w) = w.map .lit
  | [] => rfl
  | c :: r => by
    rw [own]
    split
    · rw [toks_esc, toks_own r]; rfl
    · rename_i h
      rw [toks_lit _ (fun e => h (.inl e)) (fun e => h (.inr (.inl e))) (fun e => h (.inr (.inr e))), toks_own r]; rfl
theorem glob_lits : ∀ (l w : List Int), glob (l.map .lit) w = decide (l = w)
  | [], [] => rfl
  | [], c :: w => by simp [glob]
  | c :: l, [] => by simp [glob]
  | c :: l, d :: w => by
    rw [List.map_cons, glob, glob_lits l w]
    by_cases e : c = d
    · subst e; simp
    · have : ¬ (c :: l = d :: w) := fun h => e (List.cons.inj h).1
      simp [e]
theorem glob_all (w : List Int) : glob (toks [42]) w = true := by
  rw [toks_42, glob, sufAny_iff]
  exact ⟨w.length, Nat.le_refl _, by simp [toks, glob]⟩
theorem glob_none (w : List Int) : glob (toks []) w = w.isEmpty := rfl
end Go.Proofs.YtlomjbfhalmalaaGreatDoor.H
set_option linter.unusedVariables false
set_option linter.unusedSimpArgs false
namespace Go.Proofs.YtlomjbfhalmalaaGreatDoor.H
theorem drop_at {p : List Int} {i : Nat} {c : Int} (h : p[i]? = some c) : i < p.length ∧ p.drop i = c :: p.drop (i + 1) := by
  obtain ⟨hi, hc⟩ := List.getElem?_eq_some_iff.1 h
  exact ⟨hi, by rw [List.drop_eq_getElem_cons hi, hc]⟩
theorem tk_star {p : List Int} {i : Nat} (h : p[i]? = some 42) : toks (p.drop i) = .star :: toks (p.drop (i + 1)) := by
  rw [(drop_at h).2, toks_42]
theorem tk_any {p : List Int} {i : Nat} (h : p[i]? = some 63) : toks (p.drop i) = .any :: toks (p.drop (i + 1)) := by
  rw [(drop_at h).2, toks_63]
theorem tk_esc {p : List Int} {i : Nat} {d : Int} (h : p[i]? = some 92) (hd : p[i + 1]? = some d) : toks (p.drop i) = .lit d :: toks (p.drop (i + 2)) := by
  rw [(drop_at h).2, (drop_at hd).2, toks_esc]
theorem tk_lit {p : List Int} {i : Nat} {c : Int} (h : p[i]? = some c) (h1 : c ≠ 42) (h2 : c ≠ 63) (h3 : c = 92 → p.length ≤ i + 1) : toks (p.drop i) = .lit c :: toks (p.drop (i + 1)) := by
  rw [(drop_at h).2]
  by_cases e : c = 92
  · have := h3 e
    rw [e, List.drop_eq_nil_of_le this, toks_end]; rfl
  · rw [toks_lit _ h1 h2 e]
def sv (p w : List Int) (star : Int) (back : Nat) : Option (List Tk × List Int) := if star < 0 then none else some (toks (p.drop (star.toNat + 1)), w.drop back)
structure LI (p w : List Int) (star : Int) (back i k : Nat) : Prop where
  hi : i ≤ p.length
  hk : k ≤ w.length
  s1 : -1 ≤ star
  s2 : star < i
  hb : back ≤ k
  sav : Saved (toks (p.drop i)) (w.drop k) (sv p w star back)
  eq : glob (toks p) w = (glob (toks (p.drop i)) (w.drop k) || alt (sv p w star back))
theorem LI.start (p w : List Int) : LI p w (-1) 0 0 0 := by
  refine ⟨by omega, by omega, by omega, by omega, by omega, ?_, ?_⟩
  · simp [sv, Saved]
  · simp [sv, alt]
section
variable {p w : List Int} {sr : Int} {bk i k : Nat}
theorem sv_nat (p w : List Int) (i bk : Nat) : sv p w (i : Int) bk = some (toks (p.drop (i + 1)), w.drop bk) := by
  unfold sv
  rw [if_neg (by omega), Int.toNat_natCast]
theorem LI.onStar (h : LI p w sr bk i k) (hc : p[i]? = some 42) : LI p w i k (i + 1) k := by
  obtain ⟨hi, _⟩ := drop_at hc
  have hs := h.sav
  have he := h.eq
  rw [tk_star hc] at hs he
  refine ⟨hi, h.hk, by omega, by omega, Nat.le_refl _, ?_, ?_⟩
  · rw [sv_nat]; exact step_star_saved _ _
  · rw [he, step_star hs, sv_nat]
theorem LI.fit (h : LI p w sr bk i k) {n : Nat} {t : Tk} {c : Int} (ht : toks (p.drop i) = t :: toks (p.drop (i + n))) (hn : i + n ≤ p.length) (hne : t ≠ .star) (hc : w[k]? = some c) (hf : fit t c = true) :
    LI p w sr bk (i + n) (k + 1) := by
  obtain ⟨hk, ew⟩ := drop_at hc
  have hs := h.sav
  have he := h.eq
  rw [ht, ew] at hs he
  refine ⟨hn, hk, h.s1, by have := h.s2; omega, by have := h.hb; omega, step_fit_saved hne hf hs, ?_⟩
  rw [he, glob_fit hne, hf, Bool.true_and]
theorem no_end (hi : p.length ≤ i) {c : Int} (hc : w[k]? = some c) : glob (toks (p.drop i)) (w.drop k) = false := by
  rw [List.drop_eq_nil_of_le hi, (drop_at hc).2]; rfl
theorem no_fit {n : Nat} {t : Tk} {c : Int} (ht : toks (p.drop i) = t :: toks (p.drop (i + n))) (hne : t ≠ .star) (hc : w[k]? = some c) (hf : H.fit t c = false) : glob (toks (p.drop i)) (w.drop k) = false := by
  rw [ht, (drop_at hc).2, glob_fit hne, hf, Bool.false_and]
theorem LI.back (h : LI p w sr bk i k) (hno : glob (toks (p.drop i)) (w.drop k) = false) (hk : k < w.length) (hs : 0 ≤ sr) : LI p w sr (bk + 1) ((Int.toNat sr) + 1) (bk + 1) := by
  have he := h.eq
  have h1 := h.hi
  have h2 := h.s2
  have h3 := h.hb
  have hb : bk < w.length := by omega
  have esv : ∀ b, sv p w sr b = some (toks (p.drop ((Int.toNat sr) + 1)), w.drop b) := fun b => by unfold sv; rw [if_neg (by omega)]
  refine ⟨by omega, by omega, h.s1, by omega, Nat.le_refl _, ?_, ?_⟩
  · rw [esv]; exact step_star_saved _ _
  · rw [he, hno, esv, esv, Bool.false_or, List.drop_eq_getElem_cons hb, step_back]
theorem LI.lost (h : LI p w sr bk i k) (hno : glob (toks (p.drop i)) (w.drop k) = false) (hs : sr < 0) : glob (toks p) w = false := by
  rw [h.eq, hno]
  unfold sv
  rw [if_pos hs]; rfl
def stars (l : List Int) : Bool := (toks l).all fun t => decide (t = .star)
theorem LI.last (h : LI p w sr bk i w.length) : glob (toks p) w = stars (p.drop i) := by
  have hs := h.sav
  have he := h.eq
  rw [List.drop_length] at hs he
  rw [he, end_alt hs, Bool.or_false, glob_nil]; rfl
theorem stars_step (hc : p[i]? = some 42) : stars (p.drop i) = stars (p.drop (i + 1)) := by
  unfold stars
  rw [tk_star hc]; simp
theorem stars_end (hi : p.length ≤ i) : stars (p.drop i) = true := by
  rw [List.drop_eq_nil_of_le hi]; rfl
theorem stars_no {c : Int} (hc : p[i]? = some c) (h : c ≠ 42) : stars (p.drop i) = false := by
  unfold stars
  by_cases h2 : c = 63
  · rw [h2] at hc; rw [tk_any hc]; simp
  · by_cases h3 : c = 92
    · by_cases h4 : i + 1 < p.length
      · rw [h3] at hc; rw [tk_esc hc (List.getElem?_eq_getElem h4)]; simp
      · rw [tk_lit hc h h2 (fun _ => by omega)]; simp
    · rw [tk_lit hc h h2 (fun e => absurd e h3)]; simp
end
theorem lex {X Y c d C : Nat} (h : X < Y) (hc : c ≤ C) : X * (C + 1) + c < Y * (C + 1) + d := by
  have h1 : (X + 1) * (C + 1) ≤ Y * (C + 1) := Nat.mul_le_mul_right _ h
  rw [Nat.add_mul, Nat.one_mul] at h1
  omega
def mu (P W : Nat) (star back i : Int) : Nat := ((P - (star + 1).toNat) * (W + 1) + (W - back.toNat)) * (P + 1) + (P - i.toNat)
theorem mu_star {P W : Nat} {star back : Int} {i k : Nat} (hi : i < P) (h1 : -1 ≤ star) (h2 : star < i) : mu P W (i : Int) (k : Int) ((i + 1 : Nat) : Int) < mu P W star back i := by
  unfold mu
  refine lex (lex ?_ (by omega)) (by omega)
  omega
theorem mu_back {P W : Nat} {star : Int} {back : Nat} {i j : Int} (hb : back < W) : mu P W star ((back + 1 : Nat) : Int) j < mu P W star back i := by
  unfold mu
  exact lex (by omega) (by omega)
theorem mu_fit {P W : Nat} {star back : Int} {i n : Nat} (hi : i < P) (hn : 0 < n) : mu P W star back ((i + n : Nat) : Int) < mu P W star back i := by
  unfold mu
  omega
end Go.Proofs.YtlomjbfhalmalaaGreatDoor.H
set_option linter.unusedVariables false
set_option linter.unusedSimpArgs false
namespace Go.Proofs.YtlomjbfhalmalaaGreatDoor.H
def ed (x y : Nat → Int) : Nat → Nat → Nat
  | 0, k => k
  | i + 1, 0 => i + 1
  | i + 1, k + 1 =>
    if 0 < i ∧ 0 < k ∧ x i = y (k - 1) ∧ x (i - 1) = y k then
      min (min (min (ed x y i (k + 1) + 1) (ed x y (i + 1) k + 1)) (ed x y i k + if x i = y k then 0 else 1)) (ed x y (i - 1) (k - 1) + 1)
    else min (min (ed x y i (k + 1) + 1) (ed x y (i + 1) k + 1)) (ed x y i k + if x i = y k then 0 else 1)
termination_by i k => i + k
theorem ed_0 (x y : Nat → Int) (k : Nat) : ed x y 0 k = k := by rw [ed]
theorem ed_s0 (x y : Nat → Int) (i : Nat) : ed x y (i + 1) 0 = i + 1 := by rw [ed]
theorem ed_ss (x y : Nat → Int) (i k : Nat) : ed x y (i + 1) (k + 1) =
    if 0 < i ∧ 0 < k ∧ x i = y (k - 1) ∧ x (i - 1) = y k then
      min (min (min (ed x y i (k + 1) + 1) (ed x y (i + 1) k + 1)) (ed x y i k + if x i = y k then 0 else 1)) (ed x y (i - 1) (k - 1) + 1)
    else min (min (ed x y i (k + 1) + 1) (ed x y (i + 1) k + 1)) (ed x y i k + if x i = y k then 0 else 1) := by rw [ed]
theorem ed_i0 (x y : Nat → Int) (i : Nat) : ed x y i 0 = i := by
  cases i with
  | zero => exact ed_0 x y 0
  | succ i => exact ed_s0 x y i
theorem ed_up (x y : Nat → Int) (i k : Nat) : ed x y (i + 1) k ≤ ed x y i k + 1 := by
  cases k with
  | zero => rw [ed_s0, ed_i0]; exact Nat.le_refl _
  | succ k => rw [ed_ss]; split <;> omega
theorem ed_left (x y : Nat → Int) (i k : Nat) : ed x y i (k + 1) ≤ ed x y i k + 1 := by
  cases i with
  | zero => rw [ed_0, ed_0]; exact Nat.le_refl _
  | succ i => rw [ed_ss]; split <;> omega
theorem ed_diag (x y : Nat → Int) (i k : Nat) : ed x y (i + 1) (k + 1) ≤ ed x y i k + 1 := by
  rw [ed_ss]
  have : (if x i = y k then 0 else 1) ≤ 1 := by split <;> omega
  generalize (if x i = y k then 0 else 1) = c at this ⊢
  split <;> omega
theorem ed_A (x y : Nat → Int) : ∀ i k, ed x y i k ≤ ed x y i (k + 1) + 1
  | 0, k => by rw [ed_0, ed_0]; omega
  | i + 1, k => by
    have h1 := ed_A x y i k
    have h2 := ed_up x y i k
    rw [ed_ss]
    generalize (if x i = y k then 0 else 1) = c
    split
    · rename_i h
      obtain ⟨i, rfl⟩ : ∃ j, i = j + 1 := ⟨i - 1, by omega⟩
      obtain ⟨k, rfl⟩ : ∃ j, k = j + 1 := ⟨k - 1, by omega⟩
      have h3 := ed_diag x y (i + 1) k
      have h4 := ed_up x y i k
      simp only [Nat.add_sub_cancel] at *
      omega
    · omega
theorem ed_B (x y : Nat → Int) : ∀ k i, ed x y i k ≤ ed x y (i + 1) k + 1
  | 0, i => by rw [ed_i0, ed_i0]; omega
  | k + 1, i => by
    have h1 := ed_B x y k i
    have h2 := ed_left x y i k
    rw [ed_ss]
    generalize (if x i = y k then 0 else 1) = c
    split
    · rename_i h
      obtain ⟨i, rfl⟩ : ∃ j, i = j + 1 := ⟨i - 1, by omega⟩
      obtain ⟨k, rfl⟩ : ∃ j, k = j + 1 := ⟨k - 1, by omega⟩
      have h3 := ed_diag x y i (k + 1)
      have h4 := ed_left x y i k
      simp only [Nat.add_sub_cancel] at *
      omega
    · omega
theorem ed_short (x y : Nat → Int) (i k : Nat) : ed x y (i + 1) (k + 1) =
    (let n := if x i = y k then ed x y i k else min (min (ed x y i k) (ed x y i (k + 1))) (ed x y (i + 1) k) + 1
     if 0 < i ∧ 0 < k ∧ x i = y (k - 1) ∧ x (i - 1) = y k then min n (ed x y (i - 1) (k - 1) + 1) else n) := by
  have h1 := ed_A x y i k
  have h2 := ed_B x y k i
  rw [ed_ss]
  by_cases h : x i = y k
  · simp only [if_pos h]
    split <;> omega
  · simp only [if_neg h]
    split <;> omega
theorem ed_le (x y : Nat → Int) : ∀ i k, ed x y i k ≤ max i k
  | 0, k => by rw [ed_0]; omega
  | i + 1, 0 => by rw [ed_s0]; omega
  | i + 1, k + 1 => by
    have h1 := ed_le x y i k
    have h2 := ed_diag x y i k
    omega
end Go.Proofs.YtlomjbfhalmalaaGreatDoor.H
