/-
  glossarylaw05.ScanJoined, walked.
-/
import Derived.Test.YtekoeobfddfgpaaDoorE1
import Derived.Deep.QuietTactic
import Derived.BigQuiet
set_option linter.unusedVariables false
set_option linter.unusedSimpArgs false
namespace Go.Proofs.YtekoeobfddfgpaaDoor.C
open Go Go.RowKit Go.Shelf Go.Proofs.YtekoeobfddfgpaaDoor.M Go.Proofs.YtekoeobfddfgpaaDoor.Z

/-- a file that is read without an error -/
theorem scan_ok {l : List UInt8} (h : scanE l = none) : (scanM l).2 = none ∧ l.length ≤ 1048576 := by
  unfold scanE at h
  split at h
  · cases h
  split at h
  · cases h
  refine ⟨?_, by omega⟩
  cases h' : (scanM l).2 with
  | none => rfl
  | some x => rw [h'] at h; cases h
theorem scanE_ok {l : List UInt8} (h1 : l.length ≤ 1048576) (h2 : l.count 10 ≤ 65535) (h : (scanM l).2 = none) : scanE l = none := by
  have : linesN l ≤ 65536 := by unfold linesN; split <;> omega
  unfold scanE
  rw [if_neg (by omega), if_neg (by omega), h]
theorem bl_app (s t : ByteArray) : bl (s ++ t) = bl s ++ bl t := by simp [bl, ByteArray.toList_data_append]
set_option maxHeartbeats 4000000 in
set_option maxRecDepth 100000 in
theorem law_ScanJoined (w : World) (hT : Lib.Utf8Tabs 1 2 w) (hE : HE w) (s : ByteArray) (hs : s.size ≤ 140737488351232) (t : ByteArray) (ht : t.size ≤ 140737488351232) :
    Calls Tryd.prog 3 #[.string s, .string t] w fun e w' => e = .returned (.bool true) ∧ Below w.heap.size w w' := by
  have hL : Laid w := ⟨hT, hE⟩
  clear hT hE
  have cS := scan_any s w hs hL.1
  have cS2 : ∀ W, Below w.heap.size w W → Calls Tryd.prog 8 #[.string t] W (ScanP t W) := fun W hb => scan_any t W ht (hL.below hb).1
  have cS3 : ∀ W, Below w.heap.size w W → ∀ r : ByteArray, r.size ≤ 140737488351232 → Calls Tryd.prog 8 #[.string r] W (ScanP r W) := fun W hb r hr => scan_any r W hr (hL.below hb).1
  have cW : ∀ W, Below w.heap.size w W → Calls Tryd.prog 10 #[] W fun e w' => e = .returned (.bool true) ∧ Below W.heap.size W w' := fun W hb => works_any W (hL.below hb).1 (hL.below hb).2
  have cE1 := fun W => ended_any s W hs
  have cE2 := fun W => ended_any t W ht
  have hl := bl_len s
  have hl2 := bl_len t
  clear hL
  go_enter Tryd.func3, Tryd.ntmps3
  go_wp2_with fail
  refine cS.mono ?_
  rintro e w1 ⟨hb1, hr⟩
  clear cS
  have cS2' := cS2 w1 hb1
  have cW' := Lib.hid cW
  have cS3' := Lib.hid cS3
  have hb1' := Lib.hid hb1
  have HR1 := Lib.hid hr
  obtain ⟨v1, x1, rfl⟩ : ∃ v x, e = .returned (.tuple #[v, x]) := by
    rcases hr with ⟨no, ln, cl, hr, he⟩ | ⟨hE, v, he, hown⟩
    · exact ⟨_, _, he⟩
    · exact ⟨_, _, he⟩
  clear hr cW cS2 cS3
  go_wp2_with fail
  refine cS2'.mono ?_
  rintro e w2 ⟨hb2, hr⟩
  clear cS2'
  have hb12 := Lib.hid (hb1'.out.trans (hb2.mono hb1'.out.size))
  have cW2 := cW'.out w2 hb12.out
  obtain ⟨v2, x2, rfl⟩ : ∃ v x, e = .returned (.tuple #[v, x]) := by
    rcases hr with ⟨no, ln, cl, hr, he⟩ | ⟨hE, v, he, hown⟩
    · exact ⟨_, _, he⟩
    · exact ⟨_, _, he⟩
  have HR2 := Lib.hid hr
  have hb2' := Lib.hid hb2
  clear hr hb2 hb1
  rcases HR1.out with ⟨no, ln, cl, hr, he⟩ | ⟨hE1, v, he, hown1⟩
  · unfold Go.Proofs.YtekoeobfddfgpaaDoor.E.flt at he
    injection he with he; injection he with he; simp only [Array.mk.injEq, List.cons.injEq, and_true] at he
    obtain ⟨rfl, rfl⟩ := he
    clear hr HR1 HR2
    go_wp2_with fail
    refine cW2.mono ?_
    rintro e w3 ⟨rfl, hb3⟩
    have HC := Lib.hid (hb12.out.trans (hb3.mono hb12.out.size))
    go_wp2_with fail
    go_ret
    exact ⟨rfl, HC.out⟩
  injection he with he; injection he with he; simp only [Array.mk.injEq, List.cons.injEq, and_true] at he
  obtain ⟨rfl, rfl⟩ := he
  rcases HR2.out with ⟨no, ln, cl, hr, he⟩ | ⟨hE2, v', he, hown2⟩
  · unfold Go.Proofs.YtekoeobfddfgpaaDoor.E.flt at he
    injection he with he; injection he with he; simp only [Array.mk.injEq, List.cons.injEq, and_true] at he
    obtain ⟨rfl, rfl⟩ := he
    clear hr HR1 HR2 hE1 hown1
    go_wp2_with fail
    refine cW2.mono ?_
    rintro e w3 ⟨rfl, hb3⟩
    have HC := Lib.hid (hb12.out.trans (hb3.mono hb12.out.size))
    go_wp2_with fail
    go_ret
    exact ⟨rfl, HC.out⟩
  injection he with he; injection he with he; simp only [Array.mk.injEq, List.cons.injEq, and_true] at he
  obtain ⟨rfl, rfl⟩ := he
  clear HR1 HR2
  obtain ⟨hm1, hz1⟩ := scan_ok hE1
  obtain ⟨hm2, hz2⟩ := scan_ok hE2
  have hS1 := stand hm1
  have hS2 := stand hm2
  have hJ := scanM_joined _ (bl s) (Nat.le_refl _) hm1 (bl t)
  rw [hm2] at hJ
  obtain ⟨xs, hxs⟩ : ∃ xs, (scanM (bl s)).1 = xs := ⟨_, rfl⟩
  obtain ⟨ys, hys⟩ : ∃ ys, (scanM (bl t)).1 = ys := ⟨_, rfl⟩
  rw [hxs] at hown1 hS1 hJ
  rw [hys] at hown2 hS2 hJ
  obtain ⟨g1, cap1, hK1⟩ := toks_of hown1 hS1.ne
  obtain ⟨g2, cap2, hK2⟩ := toks_of hown2 hS2.ne
  obtain ⟨n1, hn1⟩ : ∃ n, xs.length = n := ⟨_, rfl⟩
  obtain ⟨n2, hn2⟩ : ∃ n, ys.length = n := ⟨_, rfl⟩
  have hv1 := hK1.v
  have hv2 := hK2.v
  rw [hn1] at hv1
  rw [hn2] at hv2
  obtain rfl := hv1
  obtain rfl := hv2
  have hp1 : 0 < n1 := by rw [← hn1]; exact List.length_pos_iff.2 hS1.ne
  have hp2 : 0 < n2 := by rw [← hn2]; exact List.length_pos_iff.2 hS2.ne
  have hK1' := Lib.hid hK1
  have hK2' := Lib.hid hK2
  have hS1' := Lib.hid hS1
  have hS2' := Lib.hid hS2
  have hJ' := Lib.hid hJ
  have hw12 : Hid (Below w1.heap.size w1 w2) := hb2'
  obtain ⟨C1, hC1⟩ : ∃ C, (bl s).count 10 = C := ⟨_, rfl⟩
  obtain ⟨C2, hC2⟩ : ∃ C, (bl t).count 10 = C := ⟨_, rfl⟩
  rw [hC1] at cE1
  rw [hC2] at cE2
  have hC1l : C1 ≤ s.size := by rw [← hC1, ← hl]; exact List.count_le_length
  have hC2l : C2 ≤ t.size := by rw [← hC2, ← hl2]; exact List.count_le_length
  have hs2 : s.size ≤ 1048576 := by omega
  have ht2 : t.size ≤ 1048576 := by omega
  have hn1' := hn1
  have hC1' := Lib.hid hC1
  have hC2' := Lib.hid hC2
  have hn2' := hn2
  clear hE1 hE2 hown1 hown2 hK1 hK2 hS1 hS2 hJ hm1 hm2 hz1 hz2
  by_cases h5 : 500000 < s.size + t.size
  · have i5 : (500000 : Int) < (s.size : Int) + t.size := by omega
    clear hC1 hC2 hl hl2 hn1 hn2 hxs hys
    go_wp2_with fail
    refine cW2.mono ?_
    rintro e w3 ⟨rfl, hb3⟩
    have HC := Lib.hid (hb12.out.trans (hb3.mono hb12.out.size))
    go_wp2_with fail
    go_ret
    exact ⟨rfl, HC.out⟩
  have i5 : (s.size : Int) + t.size ≤ 500000 := by omega
  have hln1 : n1 ≤ 9223372036854775807 := hn1 ▸ hK1'.out.len
  have hln2 : n2 ≤ 9223372036854775807 := hn2 ▸ hK2'.out.len
  by_cases h6 : 60000 < C1 + C2
  · have i6 : (60000 : Int) < (C1 : Int) + C2 := by omega
    clear hC1 hC2 hl hl2 hn1 hn2 hxs hys h5
    go_wp2_with fail
    refine (cE1 _).mono ?_
    rintro e w3 ⟨rfl, rfl⟩
    go_wp2_with fail
    refine (cE2 _).mono ?_
    rintro e w4 ⟨rfl, rfl⟩
    go_wp2_with fail
    refine cW2.mono ?_
    rintro e w3 ⟨rfl, hb3⟩
    have HC := Lib.hid (hb12.out.trans (hb3.mono hb12.out.size))
    go_wp2_with fail
    go_ret
    exact ⟨rfl, HC.out⟩
  have i6 : (C1 : Int) + C2 ≤ 60000 := by omega
  obtain ⟨r, hr⟩ : ∃ r : ByteArray, s ++ ⟨#[10]⟩ ++ t = r := ⟨_, rfl⟩
  have hbr : bl r = bl s ++ 10 :: bl t := by rw [← hr, bl_app, bl_app, List.append_assoc]; rfl
  have hrs : r.size = s.size + t.size + 1 := by rw [← bl_len, hbr]; simp; omega
  have hEr : scanE (bl r) = none := by
    refine scanE_ok (by rw [bl_len]; omega) ?_ (by rw [hbr, hJ'.out])
    rw [hbr, List.count_append, List.count_cons, hC1, hC2]
    simp only [beq_self_eq_true, if_true]
    omega
  have cR := cS3'.out w2 hb12.out r (by omega)
  have HE := Lib.hid hEr
  have HB := Lib.hid hbr
  clear hC1 hC2 hl hl2 hn1 hn2 hxs hys h5 h6 hEr hbr
  go_wp2_with fail
  refine (cE1 _).mono ?_
  rintro e w3 ⟨rfl, rfl⟩
  go_wp2_with fail
  refine (cE2 _).mono ?_
  rintro e w4 ⟨rfl, rfl⟩
  go_wp2_with fail
  refine cR.mono ?_
  rintro e w5 ⟨hb5, hr5⟩
  rw [HE.out] at hr5
  rcases hr5 with ⟨no, ln, cl, hr5, _⟩ | ⟨_, v, rfl, hown⟩
  · cases hr5
  rw [HB.out, hJ'.out] at hown
  simp only at hown
  obtain ⟨zs, hzs⟩ : ∃ zs, xs.dropLast.map (fun y => (y.1, y.2.1, y.2.2 ++ 10 :: bl t)) ++ ys = zs := ⟨_, rfl⟩
  rw [hzs] at hown
  have hn3 : zs.length = n1 - 1 + n2 := by rw [← hzs, List.length_append, List.length_map, List.length_dropLast, hn1', hn2']
  obtain ⟨g3, cap3, hK3⟩ := toks_of hown (by intro e; rw [e] at hn3; simp at hn3; omega)
  have hv3 := hK3.v
  rw [hn3] at hv3
  obtain rfl := hv3
  have hzs' := Lib.hid hzs
  have hb5' := Lib.hid hb5
  have hln3 := hK3.len
  rw [hn3] at hln3
  obtain ⟨n3, hn3'⟩ : ∃ n3, n1 - 1 + n2 = n3 := ⟨_, rfl⟩
  rw [hn3'] at hn3 hln3 hK3 ⊢
  have hK3' := Lib.hid hK3
  have z0 : ((n1 : Int) == 0) = false := by simp; omega
  have j3 : (n1 : Int) - 1 + n2 = n3 := by omega
  have j4 : IntKind.i64.wrap ((n1 : Int) - 1 + n2) = n3 := by rw [j3]; exact wrap_in (by omega) (by omega)
  have hK1'' := hK1'
  clear cR hr hrs hown hK3 hb5 hzs hn3 cS3' hK1' hJ' HB HE
  go_wp2_with fail
  go_loopw [11] (fun iv wo => ∃ i : Nat, iv = .int .i64 i ∧ i ≤ n3 ∧ Below w5.heap.size w5 wo) (fun v _ => n3 - (intOf v).toNat)
  case atStart => exact ⟨0, rfl, Nat.zero_le _, Below.refl _ _⟩
  case round =>
    obtain ⟨i, rfl, hi, hbw⟩ := hrel
    obtain ⟨wo, rfl⟩ : ∃ wo, wo = wr := ⟨wr, rfl⟩
    by_cases hlt : i < n3
    · have hlti : (i : Int) < n3 := by omega
      by_cases h1 : i < n1 - 1
      · have i1 : (i : Int) < (n1 : Int) - 1 := by omega
        have i2 : (i : Int) < (n1 : Int) := by omega
        obtain ⟨y, hy⟩ : ∃ y, xs[i]? = some y := ⟨_, List.getElem?_eq_getElem (by omega)⟩
        have hW15 : Below w1.heap.size w1 wo := (hw12.out.trans (hb5'.out.mono hw12.out.size)).trans (hbw.mono (hw12.out.trans (hb5'.out.mono hw12.out.size)).size)
        have hA1 : ∀ o, Toks (wo.alloc o) w.heap.size (.slice (some ⟨g1, 0, none⟩) n1 cap1) (bl s) xs g1 cap1 := fun o => hK1''.out.below (hW15.alloc hW15.size o)
        have hA3 : ∀ o, Toks (wo.alloc o) w4.heap.size (.slice (some ⟨g3, 0, none⟩) n3 cap3) (bl s ++ 10 :: bl t) zs g3 cap3 := fun o => hK3'.out.below (hbw.alloc hbw.size o)
        have hy3 : zs[i]? = some (y.1, y.2.1, y.2.2 ++ 10 :: bl t) := by
          rw [← hzs'.out, List.getElem?_append_left (by rw [List.length_map, List.length_dropLast]; omega), List.getElem?_map, List.getElem?_dropLast, if_pos (by omega), hy]
          rfl
        have hle := (hS1'.out.le i y hy).1
        have q0 := fun o => (hA1 o).c0 i y hy
        have q1 := fun o => (hA1 o).c1 i y hy
        have q2 := fun o => (hA1 o).c2 i y hy
        have q3 := fun o => (hA1 o).c3 i y hy
        have q4 := fun o => (hA1 o).c4 i y hy
        have p0 := fun o => (hA3 o).c0 i _ hy3
        have p1 := fun o => (hA3 o).c1 i _ hy3
        have p2 := fun o => (hA3 o).c2 i _ hy3
        have p3 := fun o => (hA3 o).c3 i _ hy3
        have p4 := fun o => (hA3 o).c4 i _ hy3
        simp only [place_head hle] at p2 p3
        have e4 : (bl s ++ 10 :: bl t).length - (y.2.2 ++ 10 :: bl t).length = (bl s).length - y.2.2.length := by rw [List.length_append, List.length_append]; omega
        simp only [e4] at p4
        generalize ((y.1 : Nat) : Int) = k0 at q0 p0
        generalize ba y.2.1 = k1 at q1 p1
        generalize (((place (bl s) y.2.2).1 : Nat) : Int) = k2 at q2 p2
        generalize (((place (bl s) y.2.2).2 : Nat) : Int) = k3 at q3 p3
        generalize (((bl s).length - y.2.2.length : Nat) : Int) = k4 at q4 p4
        have HW := Lib.hid (fun o => hbw.alloc hbw.size o)
        clear hA1 hA3 hy3 hy hle e4 hbw
        go_wp2_with fail
        go_quiet (fail)
        go_wp2_with fail
        go_roundw
        case rel => exact ⟨i + 1, by go_num, by omega, below_drewN (HW.out _) _⟩
        case measure => simp [intOf]; omega
      · obtain ⟨j, hj⟩ : ∃ j, i - (n1 - 1) = j := ⟨_, rfl⟩
        have i1 : (n1 : Int) - 1 ≤ (i : Int) := by omega
        have j5 : (i : Int) - n1 + 1 = (j : Nat) := by omega
        have j6 : (j : Int) < (n2 : Int) := by omega
        obtain ⟨y, hy⟩ : ∃ y, ys[j]? = some y := ⟨_, List.getElem?_eq_getElem (by omega)⟩
        have hW15 : Below w4.heap.size w4 wo := hb5'.out.trans (hbw.mono hb5'.out.size)
        have hA2 : ∀ o, Toks (wo.alloc o) w1.heap.size (.slice (some ⟨g2, 0, none⟩) n2 cap2) (bl t) ys g2 cap2 := fun o => hK2'.out.below (hW15.alloc hW15.size o)
        have hA3 : ∀ o, Toks (wo.alloc o) w4.heap.size (.slice (some ⟨g3, 0, none⟩) n3 cap3) (bl s ++ 10 :: bl t) zs g3 cap3 := fun o => hK3'.out.below (hbw.alloc hbw.size o)
        have hy3 : zs[i]? = some y := by
          rw [← hzs'.out, List.getElem?_append_right (by rw [List.length_map, List.length_dropLast]; omega), List.length_map, List.length_dropLast, hn1', hj, hy]
        have hle := (hS2'.out.le j y hy).1
        have q0 := fun o => (hA2 o).c0 j y hy
        have q1 := fun o => (hA2 o).c1 j y hy
        have q2 := fun o => (hA2 o).c2 j y hy
        have q3 := fun o => (hA2 o).c3 j y hy
        have q4 := fun o => (hA2 o).c4 j y hy
        have p0 := fun o => (hA3 o).c0 i _ hy3
        have p1 := fun o => (hA3 o).c1 i _ hy3
        have p2 := fun o => (hA3 o).c2 i _ hy3
        have p3 := fun o => (hA3 o).c3 i _ hy3
        have p4 := fun o => (hA3 o).c4 i _ hy3
        have hbl1 := bl_len s
        have hbl2 := bl_len t
        have hcl := hC1'.out
        simp only [place_tail hle, hcl] at p2 p3
        obtain ⟨P, hP⟩ : ∃ P : Nat, (bl t).length - y.2.2.length = P := ⟨_, rfl⟩
        have e4 : (bl s ++ 10 :: bl t).length - y.2.2.length = P + s.size + 1 := by rw [List.length_append, List.length_cons]; omega
        have hPb : P ≤ t.size := by omega
        simp only [e4] at p4
        simp only [hP] at q4
        have hplb : (place (bl t) y.2.2).1 ≤ C2 + 1 := by
          rw [place_line, ← hC2'.out]
          have := List.Sublist.count_le 10 (List.take_sublist ((bl t).length - y.2.2.length) (bl t))
          omega
        obtain ⟨L, hLe⟩ : ∃ L, (place (bl t) y.2.2).1 = L := ⟨_, rfl⟩
        rw [hLe] at q2 p2 hplb
        generalize ((y.1 : Nat) : Int) = k0 at q0 p0
        generalize ba y.2.1 = k1 at q1 p1
        generalize (((place (bl t) y.2.2).2 : Nat) : Int) = k3 at q3 p3
        have HW := Lib.hid (fun o => hbw.alloc hbw.size o)
        have p2' : ∀ o, (wo.alloc o).cell? ⟨g3, i * 5 + 2, none⟩ = some (.int .i64 ((L : Int) + C1 + 1)) := fun o => by rw [p2]; congr 2
        have p4' : ∀ o, (wo.alloc o).cell? ⟨g3, i * 5 + 4, none⟩ = some (.int .i64 ((P : Int) + s.size + 1)) := fun o => by rw [p4]; congr 2
        have hwL : IntKind.i64.wrap ((L : Int) + C1) = (L : Int) + C1 := wrap_in (by omega) (by omega)
        have hwL2 : IntKind.i64.wrap ((L : Int) + C1 + 1) = (L : Int) + C1 + 1 := wrap_in (by omega) (by omega)
        clear hA2 hA3 hy3 hy hle e4 hbw hP hLe hbl1 hbl2 hcl p2 p4 hj
        go_wp2_with fail
        go_region_with ((refine (cE1 _).mono ?_; rintro e w' ⟨rfl, rfl⟩))
        all_goals
          have hwP : IntKind.i64.wrap ((P : Int) + s.size) = (P : Int) + s.size := wrap_in (by omega) (by omega)
          have hwP2 : IntKind.i64.wrap ((P : Int) + s.size + 1) = (P : Int) + s.size + 1 := wrap_in (by omega) (by omega)
          go_wp2_with fail
          go_quiet (fail)
          go_wp2_with fail
          go_roundw
          case rel => exact ⟨i + 1, by go_num, by omega, below_drewN (HW.out _) _⟩
          case measure => simp [intOf]; omega
    · obtain rfl : i = n3 := by omega
      have HB4 := Lib.hid (hb12.out.trans ((hb5'.out.trans (hbw.mono hb5'.out.size)).mono hb12.out.size))
      have cW3 := cW'.out wo HB4.out
      clear hbw hlt
      go_wp2_with fail
      refine cW3.mono ?_
      rintro e w6 ⟨rfl, hb6⟩
      have HB5 := Lib.hid (HB4.out.trans (hb6.mono HB4.out.size))
      go_wp2_with fail
      go_ret
      exact ⟨rfl, HB5.out⟩
end Go.Proofs.YtekoeobfddfgpaaDoor.C
