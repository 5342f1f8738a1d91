/-
  glossarylaw05.ScanPlaces, walked.
-/
import Derived.Test.YtekoeobfddfgpaaDoorE1
import Derived.Deep.QuietTactic
import Derived.BigQuiet
set_option linter.unusedVariables false
set_option linter.unusedSimpArgs false
namespace Go.Proofs.YtekoeobfddfgpaaDoor.C
open Go Go.RowKit Go.Shelf Go.Proofs.YtekoeobfddfgpaaDoor.M Go.Proofs.YtekoeobfddfgpaaDoor.Z

theorem plc_bound (p : Nat × Nat) (q : List (List UInt8)) : (plc p q).2 ≤ p.2 + q.length + 1 := by
  induction q using snoc_rec with
  | h0 => simp [plc_nil]
  | h1 l x ih => rw [plc_snoc]; split <;> simp <;> omega
set_option maxHeartbeats 4000000 in
set_option maxRecDepth 100000 in
theorem law_ScanPlaces (w : World) (hT : Lib.Utf8Tabs 1 2 w) (hE : HE w) (s : ByteArray) (hs : s.size ≤ 140737488351232) :
    Calls Tryd.prog 5 #[.string s] w fun e w' => e = .returned (.bool true) ∧ Below w.heap.size w w' := by
  have hL : Laid w := ⟨hT, hE⟩
  clear hT hE
  have cS := scan_any s w hs hL.1
  have cW : ∀ W, Below w.heap.size w W → Calls Tryd.prog 10 #[] W fun e w' => e = .returned (.bool true) ∧ Below W.heap.size W w' := fun W hb => works_any W (hL.below hb).1 (hL.below hb).2
  have hl := bl_len s
  clear hL
  go_enter Tryd.func5, Tryd.ntmps5
  go_wp2_with fail
  refine cS.mono ?_
  rintro e w1 ⟨hb1, hr⟩
  clear cS
  have cW1 := cW w1 hb1
  rcases hr with ⟨no, ln, cl, hr, rfl⟩ | ⟨hE, v, rfl, hown⟩
  · have HB := Lib.hid hb1
    clear hr hb1 cW
    unfold Go.Proofs.YtekoeobfddfgpaaDoor.E.flt
    go_wp2_with fail
    refine cW1.mono ?_
    rintro e w2 ⟨rfl, hb2⟩
    have HC := Lib.hid (HB.out.trans (hb2.mono HB.out.size))
    go_wp2_with fail
    go_ret
    exact ⟨rfl, HC.out⟩
  · have hsm : (scanM (bl s)).2 = none := by
      unfold scanE at hE
      split at hE
      · cases hE
      split at hE
      · cases hE
      cases h : (scanM (bl s)).2 with
      | none => rfl
      | some x => rw [h] at hE; cases hE
    have hS := stand hsm
    obtain ⟨xs, hxs⟩ : ∃ xs, (scanM (bl s)).1 = xs := ⟨_, rfl⟩
    rw [hxs] at hown hS
    clear hsm hE hxs
    obtain ⟨g, cap, hK⟩ := toks_of hown hS.ne
    clear hown
    obtain ⟨n, hn⟩ : ∃ n, xs.length = n := ⟨_, rfl⟩
    have hv := hK.v
    rw [hn] at hv
    obtain rfl := hv
    by_cases h2 : 20000 < s.size
    · have i1 : (20000 : Int) < (s.size : Int) := by omega
      have HB := Lib.hid hb1
      clear hb1 cW hK hS h2
      go_wp2_with fail
      refine cW1.mono ?_
      rintro e w2 ⟨rfl, hb2⟩
      have HC := Lib.hid (HB.out.trans (hb2.mono HB.out.size))
      go_wp2_with fail
      go_ret
      exact ⟨rfl, HC.out⟩
    · have i1 : (s.size : Int) ≤ 20000 := by omega
      have hK' := Lib.hid hK
      have hS' := Lib.hid hS
      have hb1' := Lib.hid hb1
      have cWh := Lib.hid cW
      have hln : n ≤ 9223372036854775807 := hn ▸ hK.len
      have hpos : 0 < n := by rw [← hn]; exact List.length_pos_iff.2 hS.ne
      clear hb1 hK hS h2 cW1 cW
      go_wp2_with fail
      go_loopw [5] (fun iv wo => ∃ i : Nat, iv = .int .i64 i ∧ i ≤ n ∧ Below w1.heap.size w1 wo) (fun v _ => n - (intOf v).toNat)
      case atStart => exact ⟨0, rfl, Nat.zero_le _, Below.refl _ _⟩
      case round =>
        obtain ⟨i, rfl, hi, hbw⟩ := hrel
        obtain ⟨wo, rfl⟩ : ∃ wo, wo = wr := ⟨wr, rfl⟩
        have hK := hK'.out.below hbw
        by_cases hlt : i < n
        · obtain ⟨y, hy⟩ : ∃ y, xs[i]? = some y := ⟨_, List.getElem?_eq_getElem (by omega)⟩
          obtain ⟨hle, hdr⟩ := hS'.out.le i y hy
          obtain ⟨A, hA⟩ : ∃ A, (bl s).length - y.2.2.length = A := ⟨_, rfl⟩
          have hAs : A ≤ s.size := by omega
          have c0 := hK.c0 i y hy
          have c1 := hK.c1 i y hy
          have c2 := hK.c2 i y hy
          have c3 := hK.c3 i y hy
          have c4 := hK.c4 i y hy
          rw [hA] at c4
          have hlti : (i : Int) < n := by omega
          obtain ⟨hd, hhd⟩ : ∃ hd, s.extract 0 A = hd := ⟨_, rfl⟩
          have hbh : bl hd = (bl s).take A := by rw [← hhd, extract_ba (by omega), bl_ba]; simp
          have hhs : hd.size = A := by rw [← bl_len, hbh, List.length_take]; omega
          have hhb : hd.size ≤ 20000 := by omega
          have hcol := place_col (bl s) y.2.2
          have hlin := place_line (bl s) y.2.2
          rw [hA, ← hbh] at hcol hlin
          obtain ⟨C, hC⟩ : ∃ C, (bl hd).count 10 = C := ⟨_, rfl⟩
          have hCb : C ≤ 20000 := by have : (bl hd).count 10 ≤ (bl hd).length := List.count_le_length; rw [bl_len] at this; omega
          rw [hC] at hlin
          rw [hlin, show ((C + 1 : Nat) : Int) = (C : Int) + 1 by omega] at c2
          obtain ⟨K, hKe⟩ : ∃ K, (place (bl s) y.2.2).2 = K := ⟨_, rfl⟩
          rw [hKe] at hcol c3
          have cE := fun W => ended_any hd W (by omega)
          rw [hC] at cE
          have hcol' := Lib.hid hcol
          obtain ⟨tx, htx⟩ : ∃ tx, ba y.2.1 = tx := ⟨_, rfl⟩
          rw [htx] at c1
          have hsg : y.1 = 2 → tx.size ≤ s.size - A ∧ s.extract A (A + tx.size) = tx := by
            intro h2
            obtain ⟨q1, q2⟩ := hS'.out.sign i y hy h2
            have htl : tx.size = y.2.1.length := by rw [← bl_len, ← htx, bl_ba]
            refine ⟨by omega, ?_⟩
            rw [extract_ba (by omega), List.drop_take, show (bl s).drop A = y.2.2 by rw [← hA]; exact hdr.symm, show A + tx.size - A = y.2.1.length by omega, ← q2, htx]
          have hsg' := Lib.hid hsg
          have hbs := hbw.size
          have hprev : 0 < i → ∃ A' : Nat, wo.cell? ⟨g, (i - 1) * 5 + 4, none⟩ = some (.int .i64 (A' : Nat)) ∧ (A' : Int) < A := by
            intro h0
            obtain ⟨y', hy'⟩ : ∃ y', xs[i - 1]? = some y' := ⟨_, List.getElem?_eq_getElem (by omega)⟩
            have q := hS'.out.lt (i - 1) y' y hy' (by rw [Nat.sub_add_cancel h0]; exact hy)
            have ql := (hS'.out.le (i - 1) y' hy').1
            refine ⟨_, hK.c4 (i - 1) y' hy', by omega⟩
          have hbw' := Lib.hid hbw
          have hK2 := Lib.hid hK
          clear hK hbw hcol hC hhs hbh hlin hKe hsg htx hdr hle hy hA
          rcases Nat.eq_zero_or_pos i with h0 | h0
          all_goals first
            | (have hig : (i : Int) ≤ 0 := by omega
               clear hprev h0
               go_wp2_with fail)
            | (obtain ⟨A', hc4, hAA⟩ := hprev h0
               have hig : 0 < (i : Int) := by omega
               have hi0 : 0 ≤ (i : Int) - 1 := by omega
               have hi1 : (i : Int) - 1 < n := by omega
               clear hprev
               go_wp2_with fail
               clear hc4 hAA hi0 hi1 hig)
          all_goals (
            try simp only [hhd]
            go_loopw [8] (fun cv wr2 => ∃ (pos : Nat) (pre : List (List UInt8)), cv = .int .i64 ((plc (1, 1) pre).2 : Nat) ∧ Hid (sfx (bl hd) = pre ++ sfx ((bl hd).drop pos)) ∧ wr2.heap[wo.heap.size]? = some (.stringIter hd pos) ∧ Below wo.heap.size wo wr2) (fun _ wr2 => hd.size - wr2.iterPos wo.heap.size)
            case atStart =>
              refine ⟨0, [], rfl, by simp [Hid], ?_, ?_⟩
              · simpa using World.iter_heap wo hd 0
              · exact (Below.refl _ wo).alloc (Nat.le_refl _) (.stringIter hd 0)
            case round =>
              obtain ⟨pos, pre, rfl, hpre, hit, hbw3⟩ := hrel
              have hpl : pre.length ≤ 20000 := by
                have := congrArg List.length hpre.out
                have h2 := sfx_len (bl hd)
                rw [List.length_append] at this
                rw [bl_len] at h2
                omega
              have hKb := plc_bound (1, 1) pre
              obtain ⟨k2, hk2⟩ : ∃ k2, (plc (1, 1) pre).2 = k2 := ⟨_, rfl⟩
              have hk2' := Lib.hid hk2
              rw [hk2] at hKb ⊢
              by_cases hp : pos < hd.size
              · obtain ⟨t, ht⟩ : ∃ t, (bl hd).drop pos = t := ⟨_, rfl⟩
                have hne : t ≠ [] := by rw [← ht]; exact bl_nonempty hp
                have hdc : Utf8.decode hd pos = (dc t, dw t) := by rw [← ht]; exact (Lib.decodeL_drop hd pos).symm
                have hnx : ∀ ty, (Instr.next (.pointer (some ⟨wo.heap.size, 0, none⟩)) true ty).run Tryd.prog wr = .ok (.tuple #[.bool true, .int .i64 pos, .int .i32 (dc t : Nat)]) (wr.iterAt wo.heap.size hd (pos + dw t)) := fun ty => by
                  have := Lib.run_next_any_at (P := Tryd.prog) wr wo.heap.size hd pos ty hit hp
                  rw [hdc] at this
                  exact this
                have hw1 := dw_pos hne
                have hpre2 : Hid (sfx (bl hd) = (pre ++ [t]) ++ sfx ((bl hd).drop (pos + dw t))) := by
                  show sfx (bl hd) = _
                  rw [← List.drop_drop, ht, hpre.out, ht, sfx_cons hne]; simp
                have Hit2 := Lib.hid (Lib.iterAt_heap wr wo.heap.size hd pos (pos + dw t) hit)
                have hbw2 : Below wo.heap.size wo (wr.iterAt wo.heap.size hd (pos + dw t)) := Lib.below_iterAt hbw3 (Nat.le_refl _) hd _
                have Hhit := Lib.hid hit
                have eq1 := plc_snoc (1, 1) pre t
                rw [hk2] at eq1
                have Hm := Lib.hid (show hd.size - (pos + dw t) < hd.size - pos by omega)
                have HB2 := Lib.hid hbw2
                by_cases hc : dc t = 10
                · have t1 : (((dc t : Nat) : Int) == 10) = true := by rw [hc]; rfl
                  rw [if_pos hc] at eq1
                  have E1 := Lib.hid eq1
                  clear hdc hit ht eq1 hne hc hbw2 hbw3 hk2 hpl hw1
                  go_wp2
                  go_roundw
                  case rel => exact ⟨pos + dw t, pre ++ [t], by rw [E1.out]; rfl, hpre2, Hit2.out, HB2.out⟩
                  case measure =>
                    simp only [World.iterPos, Hit2.out, Hhit.out]
                    exact Hm.out
                · have t1 : (((dc t : Nat) : Int) == 10) = false := by simp; omega
                  rw [if_neg hc] at eq1
                  have E1 := Lib.hid eq1
                  clear hdc hit ht eq1 hne hc hbw2 hbw3 hk2 hw1
                  go_wp2
                  go_roundw
                  case rel => exact ⟨pos + dw t, pre ++ [t], by rw [E1.out]; go_num, hpre2, Hit2.out, HB2.out⟩
                  case measure =>
                    simp only [World.iterPos, Hit2.out, Hhit.out]
                    exact Hm.out
              · have hnx : ∀ ty, (Instr.next (.pointer (some ⟨wo.heap.size, 0, none⟩)) true ty).run Tryd.prog wr = _ := fun ty => Lib.run_next_end_at wr wo.heap.size hd pos ty hit hp
                have hk : k2 = K := by
                  rw [← hk2, hcol'.out, hpre.out, List.drop_of_length_le (by rw [bl_len]; omega), sfx_nil, List.append_nil]
                subst hk
                have d1 := (hbw3.cell (p := ⟨g, i * 5, none⟩) (hK2.out.lt)).trans c0
                have d1' := (hbw3.cell (p := ⟨g, i * 5 + 1, none⟩) (hK2.out.lt)).trans c1
                have d2 := (hbw3.cell (p := ⟨g, i * 5 + 2, none⟩) (hK2.out.lt)).trans c2
                have d3 := (hbw3.cell (p := ⟨g, i * 5 + 3, none⟩) (hK2.out.lt)).trans c3
                have HB3 := Lib.hid (hbw'.out.trans (hbw3.mono hbs))
                have hbe := hbw3.size
                clear c0 c1 c2 c3 c4 hit hbw3 hpre hk2 hKb hpl
                have hwC : IntKind.i64.wrap ((C : Int) + 1) = (C : Int) + 1 := wrap_in (by omega) (by omega)
                by_cases hk2 : y.1 = 2
                · obtain ⟨q1, q2⟩ := hsg'.out hk2
                  have t0 : (((y.1 : Nat) : Int) == 2) = true := by rw [hk2]; rfl
                  have q1i : (tx.size : Int) ≤ (s.size : Int) - A := by omega
                  have q3 : ((A : Int) + tx.size).toNat = A + tx.size := by omega
                  have q4 : (A : Int) + tx.size ≤ s.size := by omega
                  have q5 : IntKind.i64.wrap ((A : Int) + tx.size) = (A : Int) + tx.size := wrap_in (by omega) (by omega)
                  have q8 : (0 : Int) ≤ (A : Int) + tx.size := by omega
                  have q9 : (A : Int) ≤ (A : Int) + tx.size := by omega
                  have q6 : IntKind.i64.wrap ((s.size : Int) - A) = (s.size : Int) - A := wrap_in (by omega) (by omega)
                  clear hk2
                  go_wp2_with fail
                  go_quiet ((go_at_call 9; exact Calls.quiet_of_same (cE _)))
                  go_wp2_with fail
                  go_quiet (fail)
                  go_wp2_with fail
                  go_roundw
                  case rel => exact ⟨i + 1, by go_num, by omega, below_drewN HB3.out _⟩
                  case measure => simp [intOf]; omega
                · have t0 : (((y.1 : Nat) : Int) == 2) = false := by simp; omega
                  clear hk2
                  go_wp2_with fail
                  go_quiet ((go_at_call 9; exact Calls.quiet_of_same (cE _)))
                  go_wp2_with fail
                  go_quiet (fail)
                  go_wp2_with fail
                  go_roundw
                  case rel => exact ⟨i + 1, by go_num, by omega, below_drewN HB3.out _⟩
                  case measure => simp [intOf]; omega
            )
        · obtain rfl : i = n := by omega
          obtain ⟨y, hy⟩ : ∃ y, xs[i - 1]? = some y := ⟨_, List.getElem?_eq_getElem (by omega)⟩
          have hla := hS'.out.last
          rw [List.getLast?_eq_getElem?, hn, hy] at hla
          obtain rfl := Option.some.inj hla
          have e0 : wo.cell? ⟨g, (i - 1) * 5, none⟩ = some (.int .i64 0) := hK.c0 (i - 1) _ hy
          have e4 := hK.c4 (i - 1) _ hy
          simp only [List.length_nil, Nat.sub_zero, hl] at e4
          have hig : (0 : Int) < (i : Int) := by omega
          have hi0 : 0 ≤ (i : Int) - 1 := by omega
          have hi1 : (i : Int) - 1 < i := by omega
          have HB4 := Lib.hid (hb1'.out.trans (hbw.mono hb1'.out.size))
          have cW2 := cWh.out wo HB4.out
          clear hy hK hbw hla hlt
          go_wp2_with fail
          all_goals first | (refine cW2.mono ?_) | skip
          rintro e w3 ⟨rfl, hb3⟩
          have HB5 := Lib.hid (HB4.out.trans (hb3.mono HB4.out.size))
          clear cW2 hb3
          go_wp2_with fail
          go_ret
          exact ⟨rfl, HB5.out⟩
end Go.Proofs.YtekoeobfddfgpaaDoor.C
