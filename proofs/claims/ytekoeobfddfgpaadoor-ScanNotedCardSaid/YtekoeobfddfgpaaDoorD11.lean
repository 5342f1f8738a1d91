/-
  scan.all from its label next on.
-/
import Derived.Test.YtekoeobfddfgpaaDoorD10
set_option linter.unusedVariables false
set_option linter.unusedSimpArgs false
namespace Go.Proofs.YtekoeobfddfgpaaDoor.C
open Go Go.RowKit Go.Shelf Go.Proofs.YtekoeobfddfgpaaDoor.M Go.Proofs.YtekoeobfddfgpaaDoor.Z

theorem w64i {x : Int} (h1 : -9223372036854775808 ≤ x) (h2 : x ≤ 9223372036854775807) : wrap64 x = x := by unfold wrap64; omega
theorem past_dw (t : List UInt8) : past (t.dropWhile blk) = past t := by
  rw [past_eq, past_eq t]
  have : (t.dropWhile blk).dropWhile blk = t.dropWhile blk := by
    cases h : t.dropWhile blk with
    | nil => rfl
    | cons c r =>
      have := List.head?_dropWhile_not blk t
      rw [h] at this
      have hc : blk c = false := by simpa using this
      rw [List.dropWhile_cons, hc]; rfl
  rw [this]
theorem dw_head {t : List UInt8} {c : UInt8} {r : List UInt8} (h : t.dropWhile blk = c :: r) : blk c = false := by
  have := List.head?_dropWhile_not blk t
  rw [h] at this
  simpa using this
theorem toList_bl (x : ByteArray) : x.toList = bl x := by rw [ByteArray.toList_eq]
theorem AL.B_le {w W : World} {B b : Nat} {s : ByteArray} {t : List UInt8} {done : List (Nat × List UInt8 × List UInt8)} {p ln cl : Nat} {v : Value} (h : AL w B b s W t done p ln cl v) : B ≤ W.heap.size := Nat.le_trans h.sc.le (Nat.le_of_lt (lt_of_obj h.sc.blk))
theorem AL.keeps {w W W' : World} {B b : Nat} {s : ByteArray} {t : List UInt8} {done : List (Nat × List UInt8 × List UInt8)} {p ln cl : Nat} {v : Value} (h : AL w B b s W t done p ln cl v) (hk : Keeps none' W W') : AL w B b s W' t done p ln cl v :=
  ⟨h.sc.keeps hk (fun h => h) (fun _ _ h => h), h.dt, h.ch, h.pl, h.sm, h.dn, h.bel.trans (hk.below h.B_le (fun _ z => z.elim))⟩
theorem AL.len {w W : World} {B b : Nat} {s : ByteArray} {t : List UInt8} {done : List (Nat × List UInt8 × List UInt8)} {p ln cl : Nat} {v : Value} (h : AL w B b s W t done p ln cl v) : t.length + p = s.size := by
  have := h.sc.ps
  rw [← h.dt, List.length_drop, bl_len]; omega
/-- going over bytes that hold no token -/
theorem AL.skip {w W W' : World} {B b : Nat} {s : ByteArray} {t : List UInt8} {done : List (Nat × List UInt8 × List UInt8)} {p ln cl : Nat} {v : Value} (h : AL w B b s W t done p ln cl v) {n : Nat} (hn : n ≤ t.length) (hc : Ch t (t.drop n)) (hp : scanM (t.drop n) = scanM t)
    (hS : Sc W' B b s (p + n) (skipP (ln, cl) (t.take n)).1 (skipP (ln, cl) (t.take n)).2 v done.length (flatT (bl s) done)) (hk : Keeps (fun k => k = b) W W') : AL w B b s W' (t.drop n) done (p + n) (skipP (ln, cl) (t.take n)).1 (skipP (ln, cl) (t.take n)).2 v := by
  refine ⟨hS, by rw [← List.drop_drop, h.dt], h.ch.trans hc, ?_, by rw [hp]; exact h.sm, by have := h.dn; omega, h.bel.trans (hk.below h.B_le (fun k e => by rw [e]; exact h.sc.le))⟩
  rw [place_step h.ch hn hc, h.pl]
theorem extract_cut {x : ByteArray} {i : Nat} : bl (x.extract i x.size) = (bl x).drop i := bl_extract x i
theorem own_ge {w : World} {B n size : Nat} {e : TypeId} {v : Value} {xs : List Value} (h : w.ownsRow B e size v n xs) : ∀ g, v.ownBlock = some g → B ≤ g := by
  intro g hg
  rcases h.2 with ⟨rfl, _⟩ | ⟨g', cap, cur, rfl, hb, _⟩
  · simp [Value.ownBlock] at hg
  · have : g' = g := by simpa [Value.ownBlock] using hg
    omega
theorem flatT_snoc (l : List UInt8) (xs : List (Nat × List UInt8 × List UInt8)) (x : Nat × List UInt8 × List UInt8) : flatT l (xs ++ [x]) = flatT l xs ++ tokV l x := by unfold flatT; rw [List.flatMap_append]; simp
/-- the end is put, and that is all -/
theorem AL.fin {w W W' : World} {B b : Nat} {s : ByteArray} {done : List (Nat × List UInt8 × List UInt8)} {p ln cl : Nat} {v v' : Value} (h : AL w B b s W [] done p ln cl v) {p' ln' cl' : Nat}
    (hS : Sc W' B b s p' ln' cl' v' (done.length + 1) (flatT (bl s) done ++ tokC 0 ⟨#[]⟩ ln cl p)) (hk : Keeps (fun k => k = b ∨ v.ownBlock = some k) W W') : AllP w B b s .nilIface W' := by
  have h0 : past ([] : List UInt8) = [] := by rw [past_eq]; rfl
  have hm : scanM (bl s) = (done ++ [(0, [], [])], none) := by rw [h.sm, scanM_end h0]
  have hp : p = s.size := by have := h.len; simpa using this
  refine ⟨fun _ => ⟨rfl, p', ln', cl', v', ?_⟩, fun no u e => (by rw [hm] at e; cases e), h.bel.trans (hk.below h.B_le (fun k z => z.elim (fun e => by rw [e]; exact h.sc.le) (own_ge h.sc.row k)))⟩
  rw [hm, flatT_snoc, List.length_append]
  have ht : tokV (bl s) (0, [], []) = tokC 0 ⟨#[]⟩ ln cl p := by
    unfold tokV
    simp only [h.pl, List.length_nil, Nat.sub_zero, bl_len, hp]
    rfl
  rw [ht]
  exact hS
set_option maxHeartbeats 4000000 in
set_option maxRecDepth 100000 in
theorem all_next {w W : World} {B b : Nat} {s : ByteArray} {t : List UInt8} {done : List (Nat × List UInt8 × List UInt8)} {p ln cl : Nat} {v : Value} {tm : Array Value} {Q : Exit → Act → World → Prop} (hA : AL w B b s W t done p ln cl v) (hs : s.size ≤ 1048576)
    (htm : tm = aFr b (fun i => tm.getD i undef))
    (hret : ∀ a' W' x, a'.tmps = aFr b (fun i => a'.tmps.getD i undef) → a'.tmps.getD 2 undef = x → a'.defers = [] → AllP w B b s x W' → Q .ret a' W')
    (hgo : ∀ k a' W' u p' ln' cl', a'.tmps = aFr b (fun i => a'.tmps.getD i undef) → a'.defers = [] → AL w B b s W' u done p' ln' cl' v → LabOK k u → u.length ≤ t.length → Q (.goto k) a' W') :
    (allX 5).wp Tryd.prog Q { tmps := tm, defers := [] } W := by
  generalize (fun i => tm.getD i undef) = g at htm
  subst htm
  unfold aFr
  conv => arg 2; whnf
  have hlen := hA.len
  obtain ⟨r, hr⟩ : ∃ r, s.extract p s.size = r := ⟨_, rfl⟩
  have hbr : bl r = t := by rw [← hr, bl_extract, hA.dt]
  have hrl : r.size = t.length := by rw [← hbr, bl_len]
  have cR := fun (W' : World) (hk : Keeps none' W W') => rest_any (hA.keeps hk).sc (by omega)
  rw [hr] at cR
  have cT := fun W' => trim_any r W'
  rw [hbr] at cT
  obtain ⟨u, hu⟩ : ∃ u, t.dropWhile blk = u := ⟨_, rfl⟩
  have hsuf := (List.dropWhile_suffix (l := t) blk).length_le
  rw [hu] at hsuf cT
  obtain ⟨n, hn⟩ : ∃ n, t.length - u.length = n := ⟨_, rfl⟩
  have hun : t.drop n = u := by
    have e := List.takeWhile_append_dropWhile (p := blk) (l := t)
    rw [hu] at e
    have hl : (t.takeWhile blk).length = n := by have := congrArg List.length e; rw [List.length_append] at this; omega
    generalize t.takeWhile blk = a at e hl
    rw [← e, ← hl, List.drop_left]
  have hz : (ba u).size = u.length := ba_size u
  obtain ⟨z, hzd⟩ : ∃ z, ba u = z := ⟨_, rfl⟩
  rw [hzd] at hz cT
  have hsub : (r.size : Int) - (z.size : Int) = (n : Int) := by omega
  have HA := Lib.hid hA
  have Hun := Lib.hid hun
  have Hu := Lib.hid hu
  have Hn := Lib.hid hn
  have Hlen := Lib.hid hlen
  have Hsuf := Lib.hid hsuf
  clear hA hr hbr hrl hu hsuf hn hun hz hzd hlen
  go_wp2_with fail
  refine (cR _ (Keeps.refl _ _)).mono ?_
  rintro e W1 ⟨rfl, q1, rfl⟩
  have k1 : Keeps none' W (W.drewN q1) := Keeps.drewN _ _ _
  generalize W.drewN q1 = W1 at k1 ⊢
  go_wp2_with fail
  refine (cR _ k1).mono ?_
  rintro e W2 ⟨rfl, q2, rfl⟩
  have k2 : Keeps none' W (W1.drewN q2) := k1.trans (Keeps.drewN _ _ _) (fun _ _ h => h)
  generalize W1.drewN q2 = W2 at k2 ⊢
  clear cR k1
  go_wp2_with fail
  refine (cT _).mono ?_
  rintro e W3 ⟨rfl, b3⟩
  have k3 : Keeps none' W W3 := k2.trans (Keeps.of_below0 b3) (fun _ _ h => h)
  clear cT b3 k2
  go_wp2_with fail
  have hA3 := HA.out.keeps k3
  have hnl : n ≤ t.length := by have := Hn.out; omega
  have cK := skip_any hA3.sc (by omega) n (by have := Hlen.out; have := hA3.sc.ps; omega)
  rw [hA3.dt] at cK
  have HA3 := Lib.hid hA3
  have Hnl := Lib.hid hnl
  clear hA3 k3 hnl
  clear hsub
  rw [w64i (by omega) (by have := Hnl.out; have := Hlen.out; omega)]
  go_wp2_with fail
  refine cK.mono ?_
  rintro e W4 ⟨rfl, hS4, k4⟩
  have hA4 := HA3.out.skip Hnl.out (by rw [Hun.out, ← Hu.out]; exact dropWhile_ch blk_ascii t) (scanM_past (by rw [Hun.out, ← Hu.out, past_dw])) hS4 k4
  rw [Hun.out] at hA4
  generalize skipP (ln, cl) (t.take n) = L4 at hA4
  clear cK hS4 k4
  obtain ⟨r4, hr4⟩ : ∃ r, s.extract (p + n) s.size = r := ⟨_, rfl⟩
  have cR4 := fun (W' : World) (hk : Keeps none' W4 W') => rest_any (hA4.keeps hk).sc (by omega)
  rw [hr4] at cR4
  have hb4 : bl r4 = u := by rw [← hr4, bl_extract, hA4.dt]
  have ht4 : r4.toList = u := by rw [toList_bl, hb4]
  have HA4 := Lib.hid hA4
  have Hb4 := Lib.hid hb4
  clear hA4 hr4 hb4
  cases u with
  | nil =>
    have tn : r4.toList = [] := ht4
    have te : r4.toList.isEmpty = true := by rw [ht4]; rfl
    go_wp2_with fail
    refine (cR4 _ (Keeps.refl _ _)).mono ?_
    rintro e W5 ⟨rfl, q5, rfl⟩
    have hA5 := HA4.out.keeps (Keeps.drewN none' _ q5)
    have cP := put_any hA5.sc (by omega) 0 (by have := hA5.sc.ps; omega) 0 ⟨#[]⟩ (by have := hA5.dn; have := hA5.sc.ps; omega) hA5.B_le
    rw [show ((0 : Nat) : Int) = 0 from rfl] at cP
    have HA5 := Lib.hid hA5
    clear hA5 cR4 HA4
    go_wp2_with fail
    refine cP.mono ?_
    rintro e W6 ⟨rfl, v6, hS6, k6, _⟩
    have HF := Lib.hid (HA5.out.fin hS6 k6)
    clear cP hS6 k6
    go_wp2_with fail
    exact hret _ _ _ rfl rfl rfl HF.out
  | cons c u =>
    have tn : ¬ r4.toList = [] := by rw [ht4]; simp
    have te : r4.toList.isEmpty = false := by rw [ht4]; rfl
    go_wp2_with fail
    refine (cR4 _ (Keeps.refl _ _)).mono ?_
    rintro e W5 ⟨rfl, q5, rfl⟩
    have k5 : Keeps none' W4 (W4.drewN q5) := Keeps.drewN _ _ _
    generalize W4.drewN q5 = W5 at k5 ⊢
    go_wp2_with fail
    refine (cR4 _ k5).mono ?_
    rintro e W6 ⟨rfl, q6, rfl⟩
    have k6 : Keeps none' W4 (W5.drewN q6) := k5.trans (Keeps.drewN _ _ _) (fun _ _ h => h)
    generalize W5.drewN q6 = W6 at k6 ⊢
    clear cR4 k5 tn te ht4
    go_wp2_with fail
    have hsz4 : 0 < r4.size := by rw [← bl_len, Hb4.out]; simp
    have hd0 : Utf8.decode r4 0 = (dc (c :: u), dw (c :: u)) := by
      have := (Lib.decodeL_drop r4 0).symm
      rw [List.drop_zero] at this
      rw [← Hb4.out]; exact this
    have hit : (W6.iter r4 0).heap[W6.heap.size]? = some (.stringIter r4 0) := by simpa using World.iter_heap W6 r4 0
    have hnx : ∀ ty, (Instr.next (.pointer (some ⟨W6.heap.size, 0, none⟩)) true ty).run Tryd.prog (W6.iter r4 0) = .ok (.tuple #[.bool true, .int .i64 0, .int .i32 (dc (c :: u) : Nat)]) ((W6.iter r4 0).iterAt W6.heap.size r4 (0 + dw (c :: u))) := fun ty => by
      have := Lib.run_next_any_at (P := Tryd.prog) (W6.iter r4 0) W6.heap.size r4 0 ty hit hsz4
      rw [hd0] at this
      exact this
    have k7 : Keeps none' W4 ((W6.iter r4 0).iterAt W6.heap.size r4 (0 + dw (c :: u))) := by
      have hbw2 : Below W6.heap.size W6 ((W6.iter r4 0).iterAt W6.heap.size r4 (0 + dw (c :: u))) := Lib.below_iterAt ((Below.refl _ W6).alloc (Nat.le_refl _) (.stringIter r4 0)) (Nat.le_refl _) r4 _
      exact k6.trans (Keeps.of_below0 hbw2) (fun _ _ h => h)
    have hA7 := HA4.out.keeps k7
    have HA7 := Lib.hid hA7
    generalize (W6.iter r4 0).iterAt W6.heap.size r4 (0 + dw (c :: u)) = W7 at hnx HA7
    obtain ⟨d, hd⟩ : ∃ d, dc (c :: u) = d := ⟨_, rfl⟩
    rw [hd] at hnx
    have Hd := Lib.hid hd
    clear hA7 k7 k6 hit hd0 HA4 hd hsz4
    rename_i K1 hK
    have HK := Lib.hid hK
    clear hK
    refine wp_loop_rounds 1 ?_
    rw [rounds_succ]
    go_wp2_with fail
    refine HK.out _ _ ?_
    exact all_switch HA7.out rfl (dw_head Hu.out) (by rw [Hd.out]; rfl) hret (fun k a' e1 e2 hL => hgo k a' W7 _ _ _ _ e1 e2 HA7.out hL Hsuf.out)
end Go.Proofs.YtekoeobfddfgpaaDoor.C
