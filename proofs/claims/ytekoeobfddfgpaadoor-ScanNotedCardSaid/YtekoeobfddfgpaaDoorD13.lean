/-
  scan.all from its labels sign, text and option on.
-/
import Derived.Test.YtekoeobfddfgpaaDoorD12
set_option linter.unusedVariables false
set_option linter.unusedSimpArgs false
namespace Go.Proofs.YtekoeobfddfgpaaDoor.C
open Go Go.RowKit Go.Shelf Go.Proofs.YtekoeobfddfgpaaDoor.M Go.Proofs.YtekoeobfddfgpaaDoor.Z

theorem past_self {u : List UInt8} {c : UInt8} {r : List UInt8} (hu : u = c :: r) (hb : blk c = false) (h : c ≠ 35) : past u = u := by
  rw [past_eq, hu, List.dropWhile_cons, hb]
  simp [h]
set_option maxHeartbeats 4000000 in
set_option maxRecDepth 100000 in
theorem all_sign {w W : World} {B b : Nat} {s : ByteArray} {u : List UInt8} {done : List (Nat × List UInt8 × List UInt8)} {p ln cl : Nat} {v : Value} {tm : Array Value} {Q : Exit → Act → World → Prop} (hA : AL w B b s W u done p ln cl v) (hs : s.size ≤ 1048576) (hL : LabOK 3 u)
    (htm : tm = aFr b (fun i => tm.getD i undef))
    (hgo : ∀ a' W' u' d' p' ln' cl' v', a'.tmps = aFr b (fun i => a'.tmps.getD i undef) → a'.defers = [] → AL w B b s W' u' d' p' ln' cl' v' → u'.length < u.length → Q (.goto 0) a' W') :
    (allX 32).wp Tryd.prog Q { tmps := tm, defers := [] } W := by
  generalize (fun i => tm.getD i undef) = g at htm
  subst htm
  unfold aFr
  conv => arg 2; whnf
  obtain ⟨c, rr, hu, hc⟩ := hL
  have hlen := hA.len
  obtain ⟨r, hr⟩ : ∃ r, s.extract p s.size = r := ⟨_, rfl⟩
  have hbr : bl r = u := by rw [← hr, bl_extract, hA.dt]
  have hrl : r.size = u.length := by rw [← hbr, bl_len]
  have cR := fun (W' : World) (hk : Keeps none' W W') => rest_any (hA.keeps hk).sc (by omega)
  rw [hr] at cR
  have cW := fun (W' : World) => width_any r c rr (by rw [hbr, hu]) W' (by omega)
  obtain ⟨n, hn⟩ : ∃ n, signW (c :: rr) = n := ⟨_, rfl⟩
  have hnw := signW_w c rr
  rw [hn, ← hu] at hnw
  rw [hn] at cW
  have hb : blk c = false := by rcases hc with rfl | rfl | rfl | rfl | rfl <;> rfl
  have h35 : c ≠ 35 := by rcases hc with rfl | rfl | rfl | rfl | rfl <;> decide
  have ho : oneM u = .tok 2 (u.take n) n := by
    rw [hu]
    simp only [oneM]
    have n1 : c ≠ 93 := by rcases hc with rfl | rfl | rfl | rfl | rfl <;> decide
    have n2 : c ≠ 42 := by rcases hc with rfl | rfl | rfl | rfl | rfl <;> decide
    have n3 : c ≠ 91 := by rcases hc with rfl | rfl | rfl | rfl | rfl <;> decide
    rw [if_neg n1, if_neg n2, if_neg n3, if_pos hc, hn]
  have hx : r.extract 0 n = ba (u.take n) := by rw [extract_ba (by omega), hbr]; rfl
  have cP := fun (W2 : World) (hk : Keeps none' W W2) => put_any (hA.keeps hk).sc (by omega) n (by have := hA.sc.ps; omega) 2 (r.extract 0 n) (by have := hA.dn; have := hA.sc.ps; omega) (hA.keeps hk).B_le
  rw [hA.dt] at cP
  have Hput := Lib.hid (fun (W2 W3 : World) (v' : Value) (hk : Keeps none' W W2) (hS) (hk2 : Keeps (fun k => k = b ∨ v.ownBlock = some k) W2 W3) => (hA.keeps hk).put (v' := v') (W' := W3) (past_self hu hb h35) hu hb h35 ho hS hk2)
  have i1 : (n : Int) ≤ (r.size : Int) := by omega
  have Hx := Lib.hid hx
  clear hA hlen hr hbr hrl hn hu hc hb h35 ho hx
  go_wp2_with fail
  refine (cR _ (Keeps.refl _ _)).mono ?_
  rintro e W1 ⟨rfl, q1, rfl⟩
  have k1 : Keeps none' W (W.drewN q1) := Keeps.drewN _ _ _
  generalize W.drewN q1 = W1 at k1 ⊢
  go_wp2_with fail
  refine (cW _).mono ?_
  rintro e W2 ⟨rfl, rfl⟩
  clear cW
  go_wp2_with fail
  refine (cR _ k1).mono ?_
  rintro e W3 ⟨rfl, q3, rfl⟩
  have k3 : Keeps none' W (W1.drewN q3) := k1.trans (Keeps.drewN _ _ _) (fun _ _ h => h)
  generalize W1.drewN q3 = W3 at k3 ⊢
  clear cR
  go_wp2_with fail
  refine (cP _ k3).mono ?_
  rintro e W4 ⟨rfl, v4, hS4, k4, _⟩
  rw [Hx.out] at hS4
  have hP := Lib.hid (Hput.out _ _ _ k3 hS4 k4)
  clear cP hS4 k4
  go_wp2_with fail
  go_step3
  exact hgo _ _ _ _ _ _ _ _ rfl rfl hP.out.1 hP.out.2
set_option maxHeartbeats 4000000 in
set_option maxRecDepth 100000 in
theorem all_option {w W : World} {B b : Nat} {s : ByteArray} {u : List UInt8} {done : List (Nat × List UInt8 × List UInt8)} {p ln cl : Nat} {v : Value} {tm : Array Value} {Q : Exit → Act → World → Prop} (hA : AL w B b s W u done p ln cl v) (hs : s.size ≤ 1048576) (hL : LabOK 2 u)
    (htm : tm = aFr b (fun i => tm.getD i undef))
    (hret : ∀ a' W' x, a'.tmps = aFr b (fun i => a'.tmps.getD i undef) → a'.tmps.getD 2 undef = x → a'.defers = [] → AllP w B b s x W' → Q .ret a' W')
    (hgo : ∀ a' W' u' d' p' ln' cl' v', a'.tmps = aFr b (fun i => a'.tmps.getD i undef) → a'.defers = [] → AL w B b s W' u' d' p' ln' cl' v' → u'.length < u.length → Q (.goto 0) a' W') :
    (allX 28).wp Tryd.prog Q { tmps := tm, defers := [] } W := by
  generalize (fun i => tm.getD i undef) = g at htm
  subst htm
  unfold aFr
  conv => arg 2; whnf
  obtain ⟨rr, hu⟩ := hL
  have hlen := hA.len
  obtain ⟨r, hr⟩ : ∃ r, s.extract p s.size = r := ⟨_, rfl⟩
  have hbr : bl r = u := by rw [← hr, bl_extract, hA.dt]
  have hrl : r.size = u.length := by rw [← hbr, bl_len]
  have cR := fun (W' : World) (hk : Keeps none' W W') => rest_any (hA.keeps hk).sc (by omega)
  rw [hr] at cR
  have cI := fun (W' : World) => idx_any r 93 W'
  rw [hbr, show (((93 : UInt8).toNat : Nat) : Int) = 93 from rfl] at cI
  have hfl := find_le 93 rr
  have hfu : find 93 u = find 93 rr + 1 := by rw [hu, find_cons, if_neg (by decide)]
  have hul : u.length = rr.length + 1 := by rw [hu]; rfl
  have hb : blk 91 = false := rfl
  have h35 : (91 : UInt8) ≠ 35 := by decide
  by_cases hf : find 93 rr = rr.length
  · have ho : oneM u = .bad 25 0 := by
      rw [hu]; simp only [oneM]
      rw [if_neg (show ¬ (91 : UInt8) = 93 by decide), if_neg (show ¬ (91 : UInt8) = 42 by decide), if_pos trivial, if_pos hf]
    have hi := (idx_find 93 u).1 (by omega)
    rw [hi] at cI
    have hF := fun (W2 W' : World) (h2 : Keeps none' W W2) (hk : Keeps (fun k => k = b) W2 W') => (hA.keeps h2).fault (past_self hu hb h35) hu ho hk
    have hpl := hA.pl
    rw [List.drop_zero, hpl] at hF
    have Hf := Lib.hid hF
    have cF := fun (W2 : World) (h2 : Keeps none' W W2) no => fault_any (hA.keeps h2).sc no
    clear hA hlen hr hbr hrl hu hfu hul ho hi hF hpl hf hfl
    go_wp2_with fail
    refine (cR _ (Keeps.refl _ _)).mono ?_
    rintro e W1 ⟨rfl, q1, rfl⟩
    have k1 : Keeps none' W (W.drewN q1) := Keeps.drewN _ _ _
    generalize W.drewN q1 = W1 at k1 ⊢
    clear cR
    go_wp2_with fail
    refine (cI _).mono ?_
    rintro e W2 ⟨rfl, rfl⟩
    clear cI
    go_wp2_with fail
    refine (cF _ k1 _).mono ?_
    rintro e w' ⟨rfl, q, rfl⟩
    clear cF
    go_wp2_with fail
    exact hret _ _ _ rfl rfl rfl (Hf.out _ _ k1 (Keeps.drewN _ _ _))
  · obtain ⟨n, hn⟩ : ∃ n, find 93 rr = n := ⟨_, rfl⟩
    have ho : oneM u = .tok 3 (spaced (rr.take n)) (n + 2) := by
      rw [hu]; simp only [oneM]
      rw [if_neg (show ¬ (91 : UInt8) = 93 by decide), if_neg (show ¬ (91 : UInt8) = 42 by decide), if_pos trivial, if_neg hf, hn]
    have hi := (idx_find 93 u).2 (by omega)
    rw [hi, hfu, hn] at cI
    obtain ⟨y, hy⟩ : ∃ y, r.extract 1 (n + 1) = y := ⟨_, rfl⟩
    have hyb : bl y = rr.take n := by
      rw [← hy, bl_ext, hbr, hu]; rfl
    have hys : y.size ≤ 4294967296 := by rw [← hy]; simp; omega
    have cJ := fun (W' : World) => join_fields y W' hys
    rw [hyb] at cJ
    have cP := fun (W2 : World) (hk : Keeps none' W W2) => put_any (hA.keeps hk).sc (by omega) (n + 2) (by have := hA.sc.ps; omega) 3 (ba (spaced (rr.take n))) (by have := hA.dn; have := hA.sc.ps; omega) (hA.keeps hk).B_le
    rw [hA.dt] at cP
    have Hput := Lib.hid (fun (W2 W3 : World) (v' : Value) (hk : Keeps none' W W2) (hS) (hk2 : Keeps (fun k => k = b ∨ v.ownBlock = some k) W2 W3) => (hA.keeps hk).put (v' := v') (W' := W3) (past_self hu hb h35) hu hb h35 ho hS hk2)
    have i0 : (0 : Int) ≤ ((n + 1 : Nat) : Int) := by omega
    have i1 : (1 : Int) ≤ ((n + 1 : Nat) : Int) := by omega
    have i2 : ((n + 1 : Nat) : Int) ≤ (r.size : Int) := by omega
    have i3 : ((n + 1 : Nat) : Int) + 1 = ((n + 2 : Nat) : Int) := by omega
    have Hy := Lib.hid hy
    have Hi3 := Lib.hid i3
    obtain ⟨m, hm⟩ : ∃ m, n + 1 = m := ⟨_, rfl⟩
    rw [hm] at cI i0 i1 i2 Hi3 Hy
    have hmb : m ≤ 1048577 := by omega
    clear hA hlen hr hbr hrl hu hfu hul ho hi hf hfl hn hy hyb hys i3 hm
    go_wp2_with fail
    refine (cR _ (Keeps.refl _ _)).mono ?_
    rintro e W1 ⟨rfl, q1, rfl⟩
    have k1 : Keeps none' W (W.drewN q1) := Keeps.drewN _ _ _
    generalize W.drewN q1 = W1 at k1 ⊢
    go_wp2_with fail
    refine (cI _).mono ?_
    rintro e W2 ⟨rfl, rfl⟩
    clear cI
    go_wp2_with fail
    refine (cR _ k1).mono ?_
    rintro e W3 ⟨rfl, q3, rfl⟩
    have k3 : Keeps none' W (W1.drewN q3) := k1.trans (Keeps.drewN _ _ _) (fun _ _ h => h)
    generalize W1.drewN q3 = W3 at k3 ⊢
    clear cR
    go_wp2_with fail
    rw [Hy.out]
    refine (cJ _).mono ?_
    rintro e W4 ⟨A, F, rfl, b4, cJ2⟩
    have k4 : Keeps none' W W4 := k3.trans (Keeps.of_below0 b4) (fun _ _ h => h)
    have cJ3 := cJ2 W4 (Keeps.refl _ _)
    clear cJ cJ2 b4
    go_wp2_with fail
    refine cJ3.mono ?_
    rintro e W5 ⟨rfl, b5⟩
    have k5 : Keeps none' W W5 := k4.trans (Keeps.of_below0 b5) (fun _ _ h => h)
    clear cJ3 b5
    go_wp2_with fail
    rw [Hi3.out]
    refine (cP _ k5).mono ?_
    rintro e W6 ⟨rfl, v6, hS6, k6, _⟩
    have hP := Lib.hid (Hput.out _ _ _ k5 hS6 k6)
    clear cP hS6 k6
    go_wp2_with fail
    go_step3
    exact hgo _ _ _ _ _ _ _ _ rfl rfl hP.out.1 hP.out.2
set_option maxHeartbeats 4000000 in
set_option maxRecDepth 100000 in
theorem all_text {w W : World} {B b : Nat} {s : ByteArray} {u : List UInt8} {done : List (Nat × List UInt8 × List UInt8)} {p ln cl : Nat} {v : Value} {tm : Array Value} {Q : Exit → Act → World → Prop} (hA : AL w B b s W u done p ln cl v) (hs : s.size ≤ 1048576) (hL : LabOK 4 u)
    (hT : Lib.Utf8Tabs 1 2 W)
    (htm : tm = aFr b (fun i => tm.getD i undef))
    (hret : ∀ a' W' x, a'.tmps = aFr b (fun i => a'.tmps.getD i undef) → a'.tmps.getD 2 undef = x → a'.defers = [] → AllP w B b s x W' → Q .ret a' W')
    (hgo : ∀ a' W' u' d' p' ln' cl' v', a'.tmps = aFr b (fun i => a'.tmps.getD i undef) → a'.defers = [] → AL w B b s W' u' d' p' ln' cl' v' → u'.length < u.length → Q (.goto 0) a' W') :
    (allX 34).wp Tryd.prog Q { tmps := tm, defers := [] } W := by
  generalize (fun i => tm.getD i undef) = g at htm
  subst htm
  unfold aFr
  conv => arg 2; whnf
  obtain ⟨c, rr, hu, hb, h35, h91, h93, h42, hsg⟩ := hL
  have hlen := hA.len
  have cT := text_any hA.sc (by omega) hT hA.B_le (own_lt hA.sc.row)
  rw [hA.dt] at cT
  have hwl := textM_w u
  by_cases he : (textM u).2.2 = 0
  · obtain ⟨o, ho'⟩ : ∃ o, (textM u).1 = o := ⟨_, rfl⟩
    obtain ⟨n, hn⟩ : ∃ n, (textM u).2.1 = n := ⟨_, rfl⟩
    have ho : oneM u = .tok 1 o n := by
      rw [hu]; simp only [oneM]
      rw [if_neg h93, if_neg h42, if_neg h91, if_neg hsg, ← hu, if_neg (by rw [he]; simp), ho', hn]
    rw [hn] at hwl
    have cP := fun (W2 : World) (hk : Keeps none' W W2) => put_any (hA.keeps hk).sc (by omega) n (by have := hA.sc.ps; omega) 1 (ba o) (by have := hA.dn; have := hA.sc.ps; omega) (hA.keeps hk).B_le
    rw [hA.dt] at cP
    have Hput := Lib.hid (fun (W2 W3 : World) (v' : Value) (hk : Keeps none' W W2) (hS) (hk2 : Keeps (fun k => k = b ∨ v.ownBlock = some k) W2 W3) => (hA.keeps hk).put (v' := v') (W' := W3) (past_self hu hb h35) hu hb h35 ho hS hk2)
    have cT2 : Calls Tryd.prog 39 #[.pointer (some ⟨b, 0, none⟩)] W fun e w' => e = .returned (.tuple #[.string (ba o), .int .i64 (n : Nat), .nilIface]) ∧ Below W.heap.size W w' := cT.mono fun e w' ⟨h1, h2⟩ => ⟨by rw [h1.1 he, ho', hn], h2⟩
    clear hA hlen hu hb h35 h91 h93 h42 hsg cT hwl he ho' hn ho hT
    go_wp2_with fail
    refine cT2.mono ?_
    rintro e W1 ⟨rfl, b1⟩
    have k1 : Keeps none' W W1 := Keeps.of_below0 b1
    clear cT2 b1
    go_wp2_with fail
    refine (cP _ k1).mono ?_
    rintro e W2 ⟨rfl, v2, hS2, k2, _⟩
    have hP := Lib.hid (Hput.out _ _ _ k1 hS2 k2)
    clear cP hS2 k2
    go_wp2_with fail
    go_step3
    exact hgo _ _ _ _ _ _ _ _ rfl rfl hP.out.1 hP.out.2
  · obtain ⟨n, hn⟩ : ∃ n, (textM u).2.1 = n := ⟨_, rfl⟩
    obtain ⟨no, hno⟩ : ∃ no, (textM u).2.2 = no := ⟨_, rfl⟩
    have ho : oneM u = .bad no n := by
      rw [hu]; simp only [oneM]
      rw [if_neg h93, if_neg h42, if_neg h91, if_neg hsg, ← hu, if_pos (by simpa using he), hno, hn]
    rw [hn] at hwl
    have hch := (oneM_ch.2 _ _ ho).1
    have hpl : place (bl s) (u.drop n) = skipP (ln, cl) (u.take n) := by rw [place_step hA.ch hwl hch, hA.pl]
    have cT2 : Calls Tryd.prog 39 #[.pointer (some ⟨b, 0, none⟩)] W fun e w' => e = .returned (.tuple #[.string ⟨#[]⟩, .int .i64 0, Go.Proofs.YtekoeobfddfgpaaDoor.E.flt (no : Nat) (place (bl s) (u.drop n)).1 (place (bl s) (u.drop n)).2]) ∧ Below W.heap.size W w' := cT.mono fun e w' ⟨h1, h2⟩ => ⟨by rw [h1.2 he, hno, hn, hpl], h2⟩
    have Hf := Lib.hid (fun (W2 : World) (h2 : Keeps none' W W2) => (hA.keeps h2).fault (past_self hu hb h35) hu ho (Keeps.refl _ W2))
    generalize (((place (bl s) (u.drop n)).1 : Nat) : Int) = L1 at cT2 Hf
    generalize (((place (bl s) (u.drop n)).2 : Nat) : Int) = L2 at cT2 Hf
    clear hA hlen hu hb h35 h91 h93 h42 hsg cT hwl he hn hno ho hT hch hpl
    go_wp2_with fail
    refine cT2.mono ?_
    rintro e W1 ⟨rfl, b1⟩
    have k1 : Keeps none' W W1 := Keeps.of_below0 b1
    clear cT2 b1
    unfold Go.Proofs.YtekoeobfddfgpaaDoor.E.flt at Hf ⊢
    go_wp2_with fail
    exact hret _ _ _ rfl rfl rfl (Hf.out _ k1)
end Go.Proofs.YtekoeobfddfgpaaDoor.C
