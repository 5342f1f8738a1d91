/-
  glossarylaw05.ScanNoted, walked.
-/
import Derived.Test.YtekoeobfddfgpaaDoorE1
import Derived.Deep.QuietTactic
import Derived.BigQuiet
set_option linter.unusedVariables false
set_option linter.unusedSimpArgs false
namespace Go.Proofs.YtekoeobfddfgpaaDoor.C
open Go Go.RowKit Go.Shelf Go.Proofs.YtekoeobfddfgpaaDoor.M Go.Proofs.YtekoeobfddfgpaaDoor.Z Go.Proofs.YtekoeobfddfgpaaDoor.PAll Go.Proofs.YtekoeobfddfgpaaDoorW.PrintWords

theorem pick_less (a : Int) (n : Nat) (h0 : 0 < n) (hn : n ≤ 9223372036854775807) : ∃ r : Nat, r < n ∧ glossarykit_Pick.f a (n : Int) = some (r : Int) := by
  have h1 := Int.tmod_lt_of_pos a (b := (n : Int)) (by omega)
  have h2 := Int.lt_tmod_of_pos a (b := (n : Int)) (by omega)
  unfold glossarykit_Pick.f
  rw [if_neg (by omega), if_neg (by omega)]
  by_cases h : Int.tmod a (n : Int) < 0
  · rw [if_pos h, w64i (by omega) (by omega)]
    exact ⟨(Int.tmod a (n : Int) + (n : Int)).toNat, by omega, by rw [Int.toNat_of_nonneg (by omega)]⟩
  · rw [if_neg h]
    exact ⟨(Int.tmod a (n : Int)).toNat, by omega, by rw [Int.toNat_of_nonneg (by omega)]⟩
/-- a file that is read without an error -/
theorem scan_ok {l : List UInt8} (h : scanE l = none) : (scanM l).2 = none ∧ l.length ≤ 1048576 := by
  unfold scanE at h
  split at h
  · cases h
  split at h
  · cases h
  refine ⟨?_, by omega⟩
  cases h' : (scanM l).2 with
  | none => rfl
  | some x => rw [h'] at h; cases h
theorem scanE_ok {l : List UInt8} (h1 : l.length ≤ 1048576) (h2 : l.count 10 ≤ 65535) (h : (scanM l).2 = none) : scanE l = none := by
  have : linesN l ≤ 65536 := by unfold linesN; split <;> omega
  unfold scanE
  rw [if_neg (by omega), if_neg (by omega), h]
theorem bl_app (s t : ByteArray) : bl (s ++ t) = bl s ++ bl t := by simp [bl, ByteArray.toList_data_append]
def gapL : List UInt8 := [32, 9, 35, 60, 39, 92, 91, 195, 169, 255, 13]
theorem gapL_gap : Gap gapL := by
  refine ⟨by decide, fun y => ?_⟩
  show past (32 :: 9 :: 35 :: ([60, 39, 92, 91, 195, 169, 255, 13] ++ 10 :: y)) = past y
  rw [past_blk (by decide), past_blk (by decide), past_note, line_all (by decide), List.dropWhile_cons]
  simp only [bne_self_eq_false, Bool.false_eq_true, if_false]
  exact past_blk (by decide)
set_option maxHeartbeats 4000000 in
set_option maxRecDepth 100000 in
theorem law_ScanNoted (w : World) (hT : Lib.Utf8Tabs 1 2 w) (hE : HE w) (s : ByteArray) (hs : s.size ≤ 140737488351232) (n : Int) (hn : (Lit.int .i64 n).wf = true) :
    Calls Tryd.prog 4 #[.string s, .int .i64 n] w fun e w' => e = .returned (.bool true) ∧ Below w.heap.size w w' := by
  have hL : Laid w := ⟨hT, hE⟩
  clear hT hE
  have cS := scan_any s w hs hL.1
  have cS3 : ∀ W, Below w.heap.size w W → ∀ r : ByteArray, r.size ≤ 140737488351232 → Calls Tryd.prog 8 #[.string r] W (ScanP r W) := fun W hb r hr => scan_any r W hr (hL.below hb).1
  have cW : ∀ W, Below w.heap.size w W → Calls Tryd.prog 10 #[] W fun e w' => e = .returned (.bool true) ∧ Below W.heap.size W w' := fun W hb => works_any W (hL.below hb).1 (hL.below hb).2
  have cE1 := fun W => ended_any s W hs
  have hl := bl_len s
  clear hL
  go_enter Tryd.func4, Tryd.ntmps4
  go_wp2_with fail
  refine cS.mono ?_
  rintro e w1 ⟨hb1, hr⟩
  clear cS
  have cW' := Lib.hid cW
  have cW1 := cW w1 hb1
  have hb1' := Lib.hid hb1
  have cS3' := Lib.hid cS3
  clear cW cS3
  rcases hr with ⟨no, ln, cl, hr, rfl⟩ | ⟨hE1, v, rfl, hown⟩
  · clear hr hb1
    unfold Go.Proofs.YtekoeobfddfgpaaDoor.E.flt
    go_wp2_with fail
    refine cW1.mono ?_
    rintro e w3 ⟨rfl, hb3⟩
    have HC := Lib.hid (hb1'.out.trans (hb3.mono hb1'.out.size))
    go_wp2_with fail
    go_ret
    exact ⟨rfl, HC.out⟩
  obtain ⟨hm1, hz1⟩ := scan_ok hE1
  have hS1 := stand hm1
  have hN := scanM_noted gapL_gap ⟨32, _, rfl, by decide⟩ _ (bl s) (Nat.le_refl _) hm1
  obtain ⟨xs, hxs⟩ : ∃ xs, (scanM (bl s)).1 = xs := ⟨_, rfl⟩
  rw [hxs] at hown hS1 hN
  obtain ⟨g1, cap1, hK1⟩ := toks_of hown hS1.ne
  obtain ⟨n1, hn1⟩ : ∃ n, xs.length = n := ⟨_, rfl⟩
  have hv1 := hK1.v
  rw [hn1] at hv1
  obtain rfl := hv1
  have hp1 : 0 < n1 := by rw [← hn1]; exact List.length_pos_iff.2 hS1.ne
  have hln1 : n1 ≤ 9223372036854775807 := hn1 ▸ hK1.len
  have hK1' := Lib.hid hK1
  have hS1' := Lib.hid hS1
  have hN' := Lib.hid hN
  have hn1' := Lib.hid hn1
  have hl' := Lib.hid hl
  obtain ⟨C1, hC1⟩ : ∃ C, (bl s).count 10 = C := ⟨_, rfl⟩
  rw [hC1] at cE1
  have hC1' := Lib.hid hC1
  have hC1l : C1 ≤ s.size := by rw [← hC1, ← hl]; exact List.count_le_length
  have hs2 : s.size ≤ 1048576 := by omega
  clear hE1 hown hK1 hS1 hN hm1 hz1 hb1 hxs hC1 hl hn1
  by_cases h5 : 500000 < s.size
  · have i5 : (500000 : Int) < (s.size : Int) := by omega
    clear h5
    go_wp2_with fail
    refine cW1.mono ?_
    rintro e w3 ⟨rfl, hb3⟩
    have HC := Lib.hid (hb1'.out.trans (hb3.mono hb1'.out.size))
    go_wp2_with fail
    go_ret
    exact ⟨rfl, HC.out⟩
  have i5 : (s.size : Int) ≤ 500000 := by omega
  by_cases h6 : 60000 < C1
  · have i6 : (60000 : Int) < (C1 : Int) := by omega
    clear h5 h6
    go_wp2_with fail
    refine (cE1 _).mono ?_
    rintro e w3 ⟨rfl, rfl⟩
    go_wp2_with fail
    refine cW1.mono ?_
    rintro e w3 ⟨rfl, hb3⟩
    have HC := Lib.hid (hb1'.out.trans (hb3.mono hb1'.out.size))
    go_wp2_with fail
    go_ret
    exact ⟨rfl, HC.out⟩
  have i6 : (C1 : Int) ≤ 60000 := by omega
  obtain ⟨p, hp, hpf⟩ := pick_less n n1 hp1 hln1
  have cP := fun W => glossarykit_Pick.calls n (n1 : Int) (p : Int) W hpf
  have hpi : (p : Int) < (n1 : Int) := by omega
  have z0 : ((n1 : Int) == 0) = false := by simp; omega
  obtain ⟨y, hy⟩ : ∃ y, xs[p]? = some y := ⟨_, List.getElem?_eq_getElem (by rw [hn1'.out]; exact hp)⟩
  obtain ⟨hle, hdr⟩ := hS1'.out.le p y hy
  have hNy := hN'.out p y hy
  obtain ⟨A, hA⟩ : ∃ A, (bl s).length - y.2.2.length = A := ⟨_, rfl⟩
  rw [hA] at hNy hdr
  have hAs : A ≤ s.size := by rw [← hl'.out]; omega
  have c4 : ∀ k, (w1.drewN k).cell? ⟨g1, p * 5 + 4, none⟩ = some (.int .i64 (A : Nat)) := fun k => by
    have := (hK1'.out.below (below_drewN (Below.refl _ _) k)).c4 p y hy
    rwa [hA] at this
  obtain ⟨r, hr⟩ : ∃ r : ByteArray, s.extract 0 A ++ ⟨#[32, 9, 35, 60, 39, 92, 91, 195, 169, 255, 13, 10, 32]⟩ ++ s.extract A s.size = r := ⟨_, rfl⟩
  have hbr : bl r = (bl s).take A ++ (gapL ++ 10 :: 32 :: y.2.2) := by
    rw [← hr, bl_app, bl_app, bl_extract, hdr, extract_ba hAs, bl_ba, List.drop_zero, List.append_assoc]
    rfl
  have hrs : r.size = s.size + 13 := by
    rw [← bl_len, hbr, List.length_append, List.length_append, List.length_take, hl'.out, Nat.min_eq_left hAs, List.length_cons, List.length_cons, show gapL.length = 11 from rfl]
    have := hl'.out
    omega
  have hEr : scanE (bl r) = none := by
    refine scanE_ok (by rw [bl_len]; omega) ?_ (by rw [hbr]; exact hNy.1)
    have h1 : ((bl s).take A).count 10 + y.2.2.count 10 = C1 := by
      rw [hdr, ← List.count_append, List.take_append_drop]
      exact hC1'.out
    rw [hbr, List.count_append, List.count_append, List.count_cons, List.count_cons, show gapL.count 10 = 0 by decide]
    simp
    omega
  obtain ⟨ys, hys⟩ : ∃ ys, (scanM (bl r)).1 = ys := ⟨_, rfl⟩
  have hkt : ys.map kt = xs.map kt := by rw [← hys, hbr]; exact hNy.2
  have hyl : ys.length = n1 := by
    have := congrArg List.length hkt
    rw [List.length_map, List.length_map, hn1'.out] at this
    exact this
  have hynil : ys ≠ [] := by intro e; rw [e] at hyl; simp at hyl; omega
  have cR : ∀ W, Below w1.heap.size w1 W → Calls Tryd.prog 8 #[.string r] W (fun e w' => Below W.heap.size W w' ∧ ∃ g cap, e = .returned (.tuple #[.slice (some ⟨g, 0, none⟩) n1 cap, .nilIface]) ∧ Toks w' W.heap.size (.slice (some ⟨g, 0, none⟩) n1 cap) (bl r) ys g cap) := by
    intro W hb
    refine (cS3'.out W (hb1'.out.trans (hb.mono hb1'.out.size)) r (by omega)).mono ?_
    rintro e w' ⟨hb2, hr⟩
    rw [hEr] at hr
    rcases hr with ⟨no, ln, cl, hr, _⟩ | ⟨_, v, rfl, hown⟩
    · cases hr
    rw [hys] at hown
    obtain ⟨g, cap, hK⟩ := toks_of hown hynil
    have hv := hK.v
    rw [hyl] at hv
    obtain rfl := hv
    exact ⟨hb2, g, cap, rfl, hK⟩
  have HKT := Lib.hid hkt
  have HYL := Lib.hid hyl
  clear hEr hbr hNy hle hdr hy hpf hp h5 h6 hA hys hkt hyl hynil
  go_wp2_with fail
  refine (cE1 _).mono ?_
  rintro e w3 ⟨rfl, rfl⟩
  go_wp2_with fail
  refine (cP _).mono ?_
  rintro e w4 ⟨rfl, ⟨⟨k, rfl⟩⟩⟩
  have c4' := c4 k
  clear c4
  go_wp2_with fail
  go_region_with ((refine (cR _ (by first | exact below_drewN (Below.refl _ _) _ | exact (below_drewN (Below.refl _ _) _).drew)).mono ?_; rintro e w5 ⟨hb5, g, cap, rfl, hK⟩))
  all_goals
    have h0 : ∀ k, Below w3.heap.size w3 ((w3.drewN k).drew) := fun k => (below_drewN (Below.refl _ _) k).drew
    have hB15 : Below w3.heap.size w3 w5 := (h0 _).trans (hb5.mono (h0 _).size)
    have hB15' := Lib.hid hB15
    have hK' := Lib.hid hK
    clear hb5 hB15 hK c4' cR h0
    go_wp2_with fail
    go_loopw [9] (fun iv wo => ∃ i : Nat, iv = .int .i64 i ∧ i ≤ n1 ∧ Below w5.heap.size w5 wo) (fun v _ => n1 - (intOf v).toNat)
    case atStart => exact ⟨0, rfl, Nat.zero_le _, Below.refl _ _⟩
    case round =>
      obtain ⟨i, rfl, hi, hbw⟩ := hrel
      have HB4 := Lib.hid (hb1'.out.trans ((hB15'.out.trans (hbw.mono hB15'.out.size)).mono hb1'.out.size))
      by_cases hlt : i < n1
      · have hlti : (i : Int) < n1 := by omega
        obtain ⟨y1, hy1⟩ : ∃ y, xs[i]? = some y := ⟨_, List.getElem?_eq_getElem (by rw [hn1'.out]; exact hlt)⟩
        obtain ⟨y2, hy2⟩ : ∃ y, ys[i]? = some y := ⟨_, List.getElem?_eq_getElem (by rw [HYL.out]; exact hlt)⟩
        have hk : kt y2 = kt y1 := by
          have := congrArg (fun l => l[i]?) HKT.out
          simp only [List.getElem?_map, hy1, hy2, Option.map_some, Option.some.injEq] at this
          exact this
        have hk1 : y2.1 = y1.1 := by show (kt y2).1 = (kt y1).1; rw [hk]
        have hk2 : y2.2.1 = y1.2.1 := by show (kt y2).2 = (kt y1).2; rw [hk]
        have hT1 := hK1'.out.below (hB15'.out.trans (hbw.mono hB15'.out.size))
        have hT2 := hK'.out.below hbw
        have q0 := hT1.c0 i y1 hy1
        have q1 := hT1.c1 i y1 hy1
        have p0 := hT2.c0 i y2 hy2
        have p1 := hT2.c1 i y2 hy2
        rw [hk1] at p0
        rw [hk2] at p1
        generalize ((y1.1 : Nat) : Int) = k0 at q0 p0
        generalize ba y1.2.1 = k1 at q1 p1
        have HW := Lib.hid hbw
        clear hT1 hT2 hy1 hy2 hk hk1 hk2 hbw hi
        go_wp2_with fail
        go_quiet (fail)
        go_wp2_with fail
        go_roundw
        case rel => exact ⟨i + 1, by go_num, by omega, below_drewN HW.out _⟩
        case measure => simp [intOf]; omega
      · obtain rfl : i = n1 := by omega
        have cW3 := cW'.out wr HB4.out
        clear hbw hlt
        go_wp2_with fail
        refine cW3.mono ?_
        rintro e w6 ⟨rfl, hb6⟩
        have HB5 := Lib.hid (HB4.out.trans (hb6.mono HB4.out.size))
        go_wp2_with fail
        go_ret
        exact ⟨rfl, HB5.out⟩
end Go.Proofs.YtekoeobfddfgpaaDoor.C
