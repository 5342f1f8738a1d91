/-
  scan.all from its other labels on.
-/
import Derived.Test.YtekoeobfddfgpaaDoorD11
set_option linter.unusedVariables false
set_option linter.unusedSimpArgs false
namespace Go.Proofs.YtekoeobfddfgpaaDoor.C
open Go Go.RowKit Go.Shelf Go.Proofs.YtekoeobfddfgpaaDoor.M Go.Proofs.YtekoeobfddfgpaaDoor.Z

theorem find_cons (c b : UInt8) (l : List UInt8) : find c (b :: l) = if b = c then 0 else find c l + 1 := by
  unfold find
  rw [List.takeWhile_cons]
  by_cases h : b = c
  · simp [h]
  · simp [h]
theorem find_le (c : UInt8) (l : List UInt8) : find c l ≤ l.length := (List.takeWhile_prefix _).length_le
theorem idx_find (c : UInt8) : ∀ l : List UInt8, (find c l = l.length → Lib.indexByte l c = -1) ∧ (find c l ≠ l.length → Lib.indexByte l c = (find c l : Nat))
  | [] => ⟨fun _ => rfl, fun h => absurd rfl h⟩
  | b :: l => by
    obtain ⟨h1, h2⟩ := idx_find c l
    have hle := find_le c l
    rw [find_cons]
    unfold Lib.indexByte
    by_cases hb : b = c
    · subst hb
      simp
    · have hb' : (b == c) = false := by simpa using hb
      rw [if_neg hb, hb']
      simp only [List.length_cons, Bool.false_eq_true, if_false]
      by_cases hf : find c l = l.length
      · rw [h1 hf]
        exact ⟨fun _ => rfl, fun h => by omega⟩
      · rw [h2 hf]
        refine ⟨fun h => by omega, fun _ => ?_⟩
        have : (((find c l : Nat) : Int) == -1) = false := by simp only [beq_eq_false_iff_ne, ne_eq]; omega
        rw [this]; simp
theorem drop_find (c : UInt8) (l : List UInt8) : l.drop (find c l) = l.dropWhile (· != c) := by
  have e := List.takeWhile_append_dropWhile (p := (· != c)) (l := l)
  unfold find
  generalize l.takeWhile (· != c) = a at e ⊢
  generalize l.dropWhile (· != c) = d at e ⊢
  rw [← e, List.drop_left]
theorem idx_any (r : ByteArray) (c : UInt8) (w : World) : Calls Tryd.prog 34 #[.string r, .int .u8 (c.toNat : Nat)] w fun e w' => e = .returned (.int .i64 (Lib.indexByte (bl r) c)) ∧ w = w' := by
  refine (Tryd.strings_IndexByte r (c.toNat : Nat) w).mono ?_
  rintro e w' ⟨rfl, rfl⟩
  rw [u8_nat]
  exact ⟨rfl, rfl⟩
theorem own_lt {w : World} {B n size : Nat} {e : TypeId} {v : Value} {xs : List Value} (h : w.ownsRow B e size v n xs) : ∀ g, v.ownBlock = some g → g < w.heap.size := by
  intro g hg
  rcases h.2 with ⟨rfl, _⟩ | ⟨g', cap, cur, rfl, hb, ho, _⟩
  · simp [Value.ownBlock] at hg
  · have : g' = g := by simpa [Value.ownBlock] using hg
    rw [← this]; exact lt_of_obj ho
/-- a token is put -/
theorem AL.put {w W W' : World} {B b : Nat} {s : ByteArray} {u : List UInt8} {done : List (Nat × List UInt8 × List UInt8)} {p ln cl : Nat} {v v' : Value} (h : AL w B b s W u done p ln cl v) (hp : past u = u) {c : UInt8} {r : List UInt8} (hu : u = c :: r) (hb : blk c = false) (h35 : c ≠ 35) {k m : Nat} {x : List UInt8} (ho : oneM u = .tok k x m)
    (hS : Sc W' B b s (p + m) (skipP (ln, cl) (u.take m)).1 (skipP (ln, cl) (u.take m)).2 v' (done.length + 1) (flatT (bl s) done ++ tokC (k : Nat) (ba x) ln cl p)) (hk : Keeps (fun k => k = b ∨ v.ownBlock = some k) W W') :
    AL w B b s W' (u.drop m) (done ++ [(k, x, u)]) (p + m) (skipP (ln, cl) (u.take m)).1 (skipP (ln, cl) (u.take m)).2 v' ∧ (u.drop m).length < u.length := by
  have hne : u ≠ [] := by rw [hu]; simp
  have hw := oneM_w hne (fun c' r' e => by rw [hu] at e; injection e with e _; subst e; exact ⟨hb, h35⟩) ho
  have hch := oneM_ch.1 _ _ _ ho
  have hm := scanM_tok (t := u) (by rw [hp]; exact hne) (by rw [hp]; exact ho)
  rw [hp] at hm
  refine ⟨⟨?_, by rw [← List.drop_drop, h.dt], h.ch.trans hch, by rw [place_step h.ch hw.2 hch, h.pl], by rw [h.sm, hm]; simp, by rw [List.length_append]; have := h.dn; simp; omega, h.bel.trans (hk.below h.B_le (fun k z => z.elim (fun e => by rw [e]; exact h.sc.le) (own_ge h.sc.row k)))⟩, by rw [List.length_drop]; have := List.length_pos_iff.2 hne; omega⟩
  rw [flatT_snoc, List.length_append]
  have ht : tokV (bl s) (k, x, u) = tokC (k : Nat) (ba x) ln cl p := by
    have hl : (bl s).length - u.length = p := by have := h.len; rw [bl_len]; omega
    unfold tokV
    simp only [h.pl, hl]
  rw [ht]
  exact hS
set_option maxHeartbeats 4000000 in
set_option maxRecDepth 100000 in
theorem all_remark {w W : World} {B b : Nat} {s : ByteArray} {u : List UInt8} {done : List (Nat × List UInt8 × List UInt8)} {p ln cl : Nat} {v : Value} {tm : Array Value} {Q : Exit → Act → World → Prop} (hA : AL w B b s W u done p ln cl v) (hs : s.size ≤ 1048576) (hL : LabOK 1 u)
    (htm : tm = aFr b (fun i => tm.getD i undef))
    (hgo : ∀ a' W' u' p' ln' cl', a'.tmps = aFr b (fun i => a'.tmps.getD i undef) → a'.defers = [] → AL w B b s W' u' done p' ln' cl' v → u'.length < u.length → Q (.goto 0) a' W') :
    (allX 24).wp Tryd.prog Q { tmps := tm, defers := [] } W := by
  generalize (fun i => tm.getD i undef) = g at htm
  subst htm
  unfold aFr
  conv => arg 2; whnf
  obtain ⟨rr, hu⟩ := hL
  have hlen := hA.len
  obtain ⟨r, hr⟩ : ∃ r, s.extract p s.size = r := ⟨_, rfl⟩
  have hbr : bl r = u := by rw [← hr, bl_extract, hA.dt]
  have hrl : r.size = u.length := by rw [← hbr, bl_len]
  have cR := fun (W' : World) (hk : Keeps none' W W') => rest_any (hA.keeps hk).sc (by omega)
  rw [hr] at cR
  have cI := fun (W' : World) => idx_any r 10 W'
  rw [hbr, show (((10 : UInt8).toNat : Nat) : Int) = 10 from rfl] at cI
  obtain ⟨n, hn⟩ : ∃ n, find 10 u = n := ⟨_, rfl⟩
  have hfl := find_le 10 u
  rw [hn] at hfl
  have hd : u.drop n = u.dropWhile (· != 10) := by rw [← hn, drop_find]
  have hn1 : 1 ≤ n := by rw [← hn, hu, find_cons, if_neg (by decide)]; omega
  have hsc : scanM (u.drop n) = scanM u := by
    refine scanM_past ?_
    rw [hd, past_eq u, hu]
    have : (35 :: rr : List UInt8).dropWhile blk = 35 :: rr := by rw [List.dropWhile_cons]; rfl
    rw [this]
    simp only [if_true]
    rw [List.dropWhile_cons]
    rfl
  have hch : Ch u (u.drop n) := by rw [hd]; exact line_ch u
  have HA := Lib.hid hA
  have Hlen := Lib.hid hlen
  have fin : ∀ (W2 : World) (a' : Act), Keeps none' W W2 → a'.tmps = aFr b (fun i => a'.tmps.getD i undef) → a'.defers = [] → True := fun _ _ _ _ _ => trivial
  have cK := fun (W2 : World) (hk : Keeps none' W W2) => skip_any (HA.out.keeps hk).sc (by omega) n (by have := (HA.out).sc.ps; omega)
  rw [hA.dt] at cK
  have hstep := fun (W2 W3 : World) (hk : Keeps none' W W2) (hS) (hk2 : Keeps (fun k => k = b) W2 W3) => (HA.out.keeps hk).skip (W' := W3) hfl hch hsc hS hk2
  have Hstep := Lib.hid hstep
  by_cases hf : find 10 u = u.length
  · have hi := (idx_find 10 u).1 hf
    rw [hi] at cI
    have hnl : n = u.length := by rw [← hn]; exact hf
    have hrn : (r.size : Int) = (n : Int) := by omega
    clear hA hr hbr hlen hd hsc hch hstep fin hf hi hu
    have Hfl := Lib.hid hfl
    have Hnl := Lib.hid hnl
    have Hn1 := Lib.hid hn1
    clear hfl hnl hn1 hn hrl
    go_wp2_with fail
    refine (cR _ (Keeps.refl _ _)).mono ?_
    rintro e W1 ⟨rfl, q1, rfl⟩
    have k1 : Keeps none' W (W.drewN q1) := Keeps.drewN _ _ _
    generalize W.drewN q1 = W1 at k1 ⊢
    go_wp2_with fail
    refine (cI _).mono ?_
    rintro e W2 ⟨rfl, rfl⟩
    go_wp2_with fail
    refine (cR _ k1).mono ?_
    rintro e W3 ⟨rfl, q3, rfl⟩
    have k3 : Keeps none' W (W1.drewN q3) := k1.trans (Keeps.drewN _ _ _) (fun _ _ h => h)
    generalize W1.drewN q3 = W3 at k3 ⊢
    go_wp2_with fail
    clear cR cI hrn
    go_wp2_with fail
    refine (cK _ k3).mono ?_
    rintro e W4 ⟨rfl, hS4, k4⟩
    have hA4 := Lib.hid (Hstep.out _ _ k3 hS4 k4)
    clear cK hS4 k4
    go_wp2_with fail
    go_step3
    exact hgo _ _ _ _ _ _ rfl rfl hA4.out (by rw [List.length_drop]; have := Hn1.out; have := Hfl.out; omega)
  · have hi := (idx_find 10 u).2 hf
    rw [hi, hn] at cI
    have hi0 : (0 : Int) ≤ (n : Int) := by omega
    clear hA hr hbr hlen hd hsc hch hstep fin hf hi hu
    have Hfl := Lib.hid hfl
    have Hn1 := Lib.hid hn1
    clear hfl hn1 hn hrl
    go_wp2_with fail
    refine (cR _ (Keeps.refl _ _)).mono ?_
    rintro e W1 ⟨rfl, q1, rfl⟩
    have k1 : Keeps none' W (W.drewN q1) := Keeps.drewN _ _ _
    generalize W.drewN q1 = W1 at k1 ⊢
    go_wp2_with fail
    refine (cI _).mono ?_
    rintro e W2 ⟨rfl, rfl⟩
    clear cR cI
    go_wp2_with fail
    refine (cK _ k1).mono ?_
    rintro e W4 ⟨rfl, hS4, k4⟩
    have hA4 := Lib.hid (Hstep.out _ _ k1 hS4 k4)
    clear cK hS4 k4
    go_wp2_with fail
    go_step3
    exact hgo _ _ _ _ _ _ rfl rfl hA4.out (by rw [List.length_drop]; have := Hn1.out; have := Hfl.out; omega)
end Go.Proofs.YtekoeobfddfgpaaDoor.C
