/-
  points.Places: Units, Byte, Unit, Wide, Line of what Measure made.
-/
import Derived.Test.YtbkimhbpcmbflaaDoorK6
import Derived.Deep.QuietTactic
import Derived.BigQuiet
set_option linter.unusedVariables false
set_option linter.unusedSimpArgs false
namespace Go.Proofs.YtbkimhbpcmbflaaDoor.C
open Go Go.RowKit Go.Proofs.YtbkimhbpcmbflaaDoor.M Go.Proofs.YtbkimhbpcmbflaaDoor.E Go.Proofs.YtbkimhbpcmbflaaDoor.PAll Go.Proofs.YtbkimhbpcmbflaaDoorW.PrintWords Go.Proofs.YtbkimhbpcmbflaaDoorW.PrintMore
attribute [local go_sem] max2_int min2_int max_two min_two

/-- what Measure made of the units us lies at block p -/
def PL (w : World) (B p : Nat) (us : List (List UInt8)) : Prop := ∃ g cap, p < B ∧ g < B ∧ us.length + 1 ≤ cap ∧ w.cell? ⟨p, 0, none⟩ = some (.slice (some ⟨g, 0, none⟩) (us.length + 1) cap) ∧
  ∀ i, i ≤ us.length → w.cell? ⟨g, i * 4, none⟩ = some (.int .i64 (off us i : Nat)) ∧ w.cell? ⟨g, i * 4 + 1, none⟩ = some (.int .i64 (accQ (us.take i)).2.wd) ∧ w.cell? ⟨g, i * 4 + 2, none⟩ = some (.int .i64 (accQ (us.take i)).2.ln) ∧ w.cell? ⟨g, i * 4 + 3, none⟩ = some (.int .i64 (accQ (us.take i)).2.st)
theorem PL.below {w w' : World} {B B' p : Nat} {us : List (List UInt8)} (h : PL w B p us) (hb : Below B' w w') (hB : B ≤ B') : PL w' B p us := by
  obtain ⟨g, cap, h1, h2, h3, h4, h5⟩ := h
  refine ⟨g, cap, h1, h2, h3, (hb.cell (p := ⟨p, 0, none⟩) (by show p < B'; omega)).trans h4, fun i hi => ?_⟩
  obtain ⟨k1, k2, k3, k4⟩ := h5 i hi
  have hg : g < B' := by omega
  exact ⟨(hb.cell (p := ⟨g, _, none⟩) hg).trans k1, (hb.cell (p := ⟨g, _, none⟩) hg).trans k2, (hb.cell (p := ⟨g, _, none⟩) hg).trans k3, (hb.cell (p := ⟨g, _, none⟩) hg).trans k4⟩
theorem PL.more {w : World} {B B' p : Nat} {us : List (List UInt8)} (h : PL w B p us) (hB : B ≤ B') : PL w B' p us := by
  obtain ⟨g, cap, h1, h2, h3, h4, h5⟩ := h
  exact ⟨g, cap, by omega, by omega, h3, h4, h5⟩
theorem flat_get : ∀ (qs : List Q) (i j : Nat) (q : Q), qs[i]? = some q → j < 4 → (flat qs)[i * 4 + j]? = q.cells[j]?
  | [], i, j, q, h, hj => by simp at h
  | a :: qs, 0, j, q, h, hj => by
    simp at h
    subst h
    unfold flat
    rw [List.flatMap_cons, List.getElem?_append_left (by show 0 * 4 + j < 4; omega)]
    simp
  | a :: qs, i + 1, j, q, h, hj => by
    rw [List.getElem?_cons_succ] at h
    have := flat_get qs i j q h hj
    unfold flat at this ⊢
    rw [List.flatMap_cons, List.getElem?_append_right (by show 4 ≤ (i + 1) * 4 + j; omega), ← this]
    congr 1
    show (i + 1) * 4 + j - 4 = _
    omega
theorem PL_of {w : World} {p base : Nat} {v : Value} {us : List (List UInt8)} (h1 : w.heap[p]? = some (.cells #[v] 102 (0, 0))) (h2 : w.ownsRow base 99 4 v (us.length + 1) (flat ((accQ us).1 ++ [(accQ us).2]))) : PL w w.heap.size p us := by
  obtain ⟨g, cap, rfl, hb, hlt⟩ := h2.form (by omega)
  have hc : us.length + 1 ≤ cap := by
    rcases h2.2 with ⟨h, _⟩ | ⟨g', cap', cur, he, _, _, hn, _⟩
    · cases h
    · cases he; omega
  refine ⟨g, cap, (Array.getElem?_eq_some_iff.1 h1).1, hlt, hc, cell_of_row _ _ _ _ _ _ h1, fun i hi => ?_⟩
  have hq := accQ_get us i hi
  have key : ∀ j u, j < 4 → (accQ (us.take i)).2.cells[j]? = some u → w.cell? ⟨g, i * 4 + j, none⟩ = some u := fun j u hj hu => by
    have := World.ownsRow.cells h2 (g := g) rfl (i * 4 + j) u (by rw [flat_get _ i j _ hq hj]; exact hu)
    have ea : (⟨g, 0, none⟩ : Addr).add (i * 4 + j) = ⟨g, i * 4 + j, none⟩ := by unfold Addr.add; split <;> simp_all
    rw [ea] at this
    exact this
  have e0 : (accQ (us.take i)).2.b = (off us i : Nat) := (accQ_what _).1
  have k0 := key 0 _ (by omega) rfl
  rw [e0] at k0
  exact ⟨k0, key 1 _ (by omega) rfl, key 2 _ (by omega) rfl, key 3 _ (by omega) rfl⟩

set_option maxHeartbeats 1000000 in
set_option maxRecDepth 1000000 in
theorem units_any (w : World) (B p : Nat) (us : List (List UInt8)) (h : PL w B p us) (hl : us.length ≤ 1048576) :
    Calls Tryd.prog 52 #[.pointer (some ⟨p, 0, none⟩)] w fun e w' => e = .returned (.int .i64 (us.length : Nat)) ∧ w = w' := by
  obtain ⟨g, cap, h1, h2, h3, h4, h5⟩ := h
  obtain ⟨n, hn⟩ : ∃ n, us.length = n := ⟨_, rfl⟩
  rw [hn] at h4 hl ⊢
  have hw : wrap64 (((n + 1 : Nat) : Int) - 1) = (n : Int) := by rw [w64 (by omega) (by omega)]; omega
  clear h5 h3 hn
  go_enter Tryd.func52, Tryd.ntmps52
  go_wp2
  go_ret
  exact ⟨rfl, rfl⟩
theorem PL.heap {w w' : World} {B p : Nat} {us : List (List UInt8)} (h : PL w B p us) (e : w'.heap = w.heap) : PL w' B p us := by
  have hc : ∀ a, w'.cell? a = w.cell? a := fun a => by simp [World.cell?, e]
  obtain ⟨g, cap, h1, h2, h3, h4, h5⟩ := h
  exact ⟨g, cap, h1, h2, h3, by rw [hc]; exact h4, fun i hi => by rw [hc, hc, hc, hc]; exact h5 i hi⟩
theorem drewN_heap (w : World) (n : Nat) : (w.drewN n).heap = w.heap := by simp

set_option maxHeartbeats 1000000 in
set_option maxRecDepth 1000000 in
theorem byte_any (w : World) (B p : Nat) (us : List (List UInt8)) (h : PL w B p us) (hl : us.length ≤ 1048576) (u : Int) :
    Calls Tryd.prog 55 #[.pointer (some ⟨p, 0, none⟩), .int .i64 u] w fun e w' => e = .returned (.int .i64 (off us (clampN us.length u) : Nat)) ∧ Below w.heap.size w w' := by
  have cU := fun k => (units_any (w.drewN k) B p us (h.heap (drewN_heap w k)) hl).mono (R' := fun e w' => e = .returned (.int .i64 (us.length : Nat)) ∧ w' = w.drewN k) (fun e w' ⟨a, b⟩ => ⟨a, b.symm⟩)
  obtain ⟨g, cap, h1, h2, h3, h4, h5⟩ := h
  obtain ⟨n, hn⟩ : ∃ n, us.length = n := ⟨_, rfl⟩
  obtain ⟨c, hc⟩ : ∃ c, clampN us.length u = c := ⟨_, rfl⟩
  have hcn : c ≤ us.length := by rw [← hc]; unfold clampN; omega
  have k0 := (h5 c hcn).1
  rw [hc]
  have hcases : (u < 0 ∧ c = 0) ∨ (0 ≤ u ∧ u ≤ us.length ∧ (c : Int) = u) ∨ ((us.length : Int) < u ∧ c = us.length) := by rw [← hc]; unfold clampN; omega
  rw [hn] at h4 hl cU hcn hcases h3
  generalize (off us c : Nat) = r at k0 ⊢
  clear h5 hn hc
  rcases hcases with ⟨c1, c2⟩ | ⟨c1, c2, c3⟩ | ⟨c1, c2⟩
  · subst c2
    go_enter Tryd.func55, Tryd.ntmps55
    go_wp2_with fail
    go_quiet (first | (go_at_call 52; exact Calls.quiet_of_same (cU _)))
    go_wp2
    go_ret
    exact ⟨rfl, Drawn0.below ⟨⟨_, rfl⟩⟩⟩
  · subst c3
    have c4 : ¬ ((n : Int) < (c : Int)) := by omega
    by_cases c0 : c = 0
    · subst c0
      go_enter Tryd.func55, Tryd.ntmps55
      go_wp2_with fail
      go_quiet (first | (go_at_call 52; exact Calls.quiet_of_same (cU _)))
      go_wp2
      go_ret
      exact ⟨rfl, Drawn0.below ⟨⟨_, rfl⟩⟩⟩
    have c5 : (0 : Int) < (c : Int) := by omega
    go_enter Tryd.func55, Tryd.ntmps55
    go_wp2_with fail
    go_quiet (first | (go_at_call 52; exact Calls.quiet_of_same (cU _)))
    go_wp2
    go_ret
    exact ⟨rfl, Drawn0.below ⟨⟨_, rfl⟩⟩⟩
  · subst c2
    have c6 : (0 : Int) ≤ (c : Int) := by omega
    by_cases c0 : c = 0
    · subst c0
      go_enter Tryd.func55, Tryd.ntmps55
      go_wp2_with fail
      go_quiet (first | (go_at_call 52; exact Calls.quiet_of_same (cU _)))
      go_wp2
      go_ret
      exact ⟨rfl, Drawn0.below ⟨⟨_, rfl⟩⟩⟩
    have c5 : (0 : Int) < (c : Int) := by omega
    go_enter Tryd.func55, Tryd.ntmps55
    go_wp2_with fail
    go_quiet (first | (go_at_call 52; exact Calls.quiet_of_same (cU _)))
    go_wp2
    go_ret
    exact ⟨rfl, Drawn0.below ⟨⟨_, rfl⟩⟩⟩


def clampA (m : Nat) (a : Int) : Nat := (min a (m : Int)).toNat
theorem IsU_of {l : List UInt8} {a : Int} {i : Nat} (hi : i ≤ (sfx l).length) (h1 : off (sfx l) i ≤ clampA l.length a) (h2 : i < (sfx l).length → clampA l.length a < off (sfx l) (i + 1)) : IsU l a i := by
  refine ⟨hi, ?_, fun h => ?_⟩
  · rcases Nat.eq_zero_or_pos i with h0 | h0
    · exact .inl h0
    · right
      have := off_ge l i hi
      unfold clampA at h1
      omega
  · have := h2 h
    have h3 := off_le l (i := i + 1) (by omega)
    unfold clampA at this
    omega
set_option maxHeartbeats 2000000 in
set_option maxRecDepth 1000000 in
theorem unit_any (w : World) (B p : Nat) (l : List UInt8) (h : PL w B p (sfx l)) (hl : l.length ≤ 1048576) (a : Int) :
    Calls Tryd.prog 64 #[.pointer (some ⟨p, 0, none⟩), .int .i64 a] w fun e w' => ∃ i, IsU l a i ∧ e = .returned (.tuple #[.int .i64 (i : Nat), .bool ((off (sfx l) i : Int) == (clampA l.length a : Int))]) ∧ Below w.heap.size w w' := by
  have hsl := sfx_len l
  have cU := fun k => (units_any (w.drewN k) B p (sfx l) (h.heap (drewN_heap w k)) (by omega)).mono (R' := fun e w' => e = .returned (.int .i64 ((sfx l).length : Nat)) ∧ w' = w.drewN k) (fun e w' ⟨a, b⟩ => ⟨a, b.symm⟩)
  obtain ⟨g, cap, h1, h2, h3, h4, h5⟩ := h
  obtain ⟨n, hn⟩ : ∃ n, (sfx l).length = n := ⟨_, rfl⟩
  have kN := (h5 (sfx l).length (Nat.le_refl _)).1
  rw [off_total] at kN
  obtain ⟨m, hm⟩ : ∃ m, l.length = m := ⟨_, rfl⟩
  obtain ⟨x, hx⟩ : ∃ x, clampA l.length a = x := ⟨_, rfl⟩
  have hcases : (a < 0 ∧ x = 0) ∨ (0 ≤ a ∧ a ≤ m ∧ (x : Int) = a) ∨ ((m : Int) < a ∧ x = m) := by rw [← hx, ← hm]; unfold clampA; omega
  have hcell : Hid (∀ i, i ≤ n → w.cell? ⟨g, i * 4, none⟩ = some (.int .i64 (off (sfx l) i : Nat))) := fun i hi => (h5 i (by omega)).1
  have Hn := Lib.hid hn
  have Hm := Lib.hid hm
  have Hx := Lib.hid hx
  have hm20 : m ≤ 1048576 := by omega
  have hn20 : n ≤ 1048576 := by omega
  rw [hn] at h4 cU h3 kN
  rw [hm] at kN
  rw [hx]
  clear h5 hn hm hx
  rcases hcases with ⟨c1, c2⟩ | ⟨c1, c2, c3⟩ | ⟨c1, c2⟩
  · subst c2
    go_enter Tryd.func64, Tryd.ntmps64
    go_wp2_with fail
    go_quiet (first | (go_at_call 52; exact Calls.quiet_of_same (cU _)))
    go_wp2_with (first | (go_at_call 52; refine (cU _).mono ?_; rintro e w1 ⟨rfl, rfl⟩))
    go_loopw [6, 7] (fun iv jv wr => ∃ i j : Nat, iv = .int .i64 i ∧ jv = .int .i64 j ∧ i ≤ j ∧ j ≤ n ∧ Hid (off (sfx l) i ≤ 0) ∧ Hid (j < n → 0 < off (sfx l) (j + 1)) ∧ Hid (wr.heap = w.heap) ∧ Below w.heap.size w wr)
      (fun iv jv _ => (intOf jv - intOf iv).toNat)
    case atStart =>
      exact ⟨0, n, rfl, rfl, by omega, by omega, by show off (sfx l) 0 ≤ _; rw [off_zero]; omega, fun hh => by omega, drewN_heap w _, Drawn0.below ⟨⟨_, rfl⟩⟩⟩
    case round =>
      obtain ⟨i, j, rfl, rfl, hij, hjn, hoi, hoj, hwh, hbw⟩ := hrel
      have hcw : Hid (∀ k, k ≤ n → wr.cell? ⟨g, k * 4, none⟩ = some (.int .i64 (off (sfx l) k : Nat))) := fun k hk => by
        rw [show wr.cell? ⟨g, k * 4, none⟩ = w.cell? ⟨g, k * 4, none⟩ by simp [World.cell?, hwh.out]]
        exact hcell.out k hk
      have k4 : wr.cell? ⟨p, 0, none⟩ = some (.slice (some ⟨g, 0, none⟩) (n + 1) cap) := by
        rw [show wr.cell? ⟨p, 0, none⟩ = w.cell? ⟨p, 0, none⟩ by simp [World.cell?, hwh.out]]
        exact h4
      by_cases hlt : i < j
      · obtain ⟨md, hmd⟩ : ∃ md, (i + j + 1) / 2 = md := ⟨_, rfl⟩
        have hmI : Int.tdiv ((i : Int) + (j : Int) + 1) 2 = (md : Int) := by rw [Int.tdiv_eq_ediv_of_nonneg (by omega)]; omega
        have hm1 : i < md := by omega
        have hm2 : md ≤ j := by omega
        have km := hcw.out md (by omega)
        clear hmd
        by_cases hc : off (sfx l) md ≤ 0
        · have hcI : (off (sfx l) md : Int) ≤ 0 := by omega
          go_wp2
          go_roundw
          case rel => exact ⟨md, j, rfl, rfl, hm2, hjn, hc, hoj, hwh, hbw⟩
          case measure => simp [intOf]; omega
        · have hcI : 0 < (off (sfx l) md : Int) := by omega
          have hmd1 : wrap64 ((md : Int) - 1) = ((md - 1 : Nat) : Int) := by rw [w64 (by omega) (by omega)]; omega
          go_wp2
          go_roundw
          case rel =>
            refine ⟨i, md - 1, rfl, by go_num, by omega, by omega, hoi, ?_, hwh, hbw⟩
            show md - 1 < n → 0 < off (sfx l) (md - 1 + 1)
            rw [show md - 1 + 1 = md by omega]
            intro _
            omega
          case measure => simp [intOf]; omega
      · obtain rfl : i = j := by omega
        have ki := hcw.out i hjn
        go_wp2_with fail
        go_quiet (fail)
        go_wp2
        go_ret2
        refine ⟨i, IsU_of (by have := Hn.out; omega) (by rw [Hx.out]; exact hoi.out) (fun hh => by rw [Hx.out]; exact hoj.out (by have := Hn.out; omega)), rfl, ?_⟩
        exact hbw.trans ((Drawn0.below ⟨⟨_, rfl⟩⟩).mono hbw.size)
  · subst c3
    by_cases c0 : x = 0
    · subst c0
      go_enter Tryd.func64, Tryd.ntmps64
      go_wp2_with fail
      go_quiet (first | (go_at_call 52; exact Calls.quiet_of_same (cU _)))
      go_wp2_with (first | (go_at_call 52; refine (cU _).mono ?_; rintro e w1 ⟨rfl, rfl⟩))
      go_loopw [6, 7] (fun iv jv wr => ∃ i j : Nat, iv = .int .i64 i ∧ jv = .int .i64 j ∧ i ≤ j ∧ j ≤ n ∧ Hid (off (sfx l) i ≤ 0) ∧ Hid (j < n → 0 < off (sfx l) (j + 1)) ∧ Hid (wr.heap = w.heap) ∧ Below w.heap.size w wr)
        (fun iv jv _ => (intOf jv - intOf iv).toNat)
      case atStart =>
        exact ⟨0, n, rfl, rfl, by omega, by omega, by show off (sfx l) 0 ≤ _; rw [off_zero]; omega, fun hh => by omega, drewN_heap w _, Drawn0.below ⟨⟨_, rfl⟩⟩⟩
      case round =>
        obtain ⟨i, j, rfl, rfl, hij, hjn, hoi, hoj, hwh, hbw⟩ := hrel
        have hcw : Hid (∀ k, k ≤ n → wr.cell? ⟨g, k * 4, none⟩ = some (.int .i64 (off (sfx l) k : Nat))) := fun k hk => by
          rw [show wr.cell? ⟨g, k * 4, none⟩ = w.cell? ⟨g, k * 4, none⟩ by simp [World.cell?, hwh.out]]
          exact hcell.out k hk
        have k4 : wr.cell? ⟨p, 0, none⟩ = some (.slice (some ⟨g, 0, none⟩) (n + 1) cap) := by
          rw [show wr.cell? ⟨p, 0, none⟩ = w.cell? ⟨p, 0, none⟩ by simp [World.cell?, hwh.out]]
          exact h4
        by_cases hlt : i < j
        · obtain ⟨md, hmd⟩ : ∃ md, (i + j + 1) / 2 = md := ⟨_, rfl⟩
          have hmI : Int.tdiv ((i : Int) + (j : Int) + 1) 2 = (md : Int) := by rw [Int.tdiv_eq_ediv_of_nonneg (by omega)]; omega
          have hm1 : i < md := by omega
          have hm2 : md ≤ j := by omega
          have km := hcw.out md (by omega)
          clear hmd
          by_cases hc : off (sfx l) md ≤ 0
          · have hcI : (off (sfx l) md : Int) ≤ 0 := by omega
            go_wp2
            go_roundw
            case rel => exact ⟨md, j, rfl, rfl, hm2, hjn, hc, hoj, hwh, hbw⟩
            case measure => simp [intOf]; omega
          · have hcI : 0 < (off (sfx l) md : Int) := by omega
            have hmd1 : wrap64 ((md : Int) - 1) = ((md - 1 : Nat) : Int) := by rw [w64 (by omega) (by omega)]; omega
            go_wp2
            go_roundw
            case rel =>
              refine ⟨i, md - 1, rfl, by go_num, by omega, by omega, hoi, ?_, hwh, hbw⟩
              show md - 1 < n → 0 < off (sfx l) (md - 1 + 1)
              rw [show md - 1 + 1 = md by omega]
              intro _
              omega
            case measure => simp [intOf]; omega
        · obtain rfl : i = j := by omega
          have ki := hcw.out i hjn
          go_wp2_with fail
          go_quiet (fail)
          go_wp2
          go_ret2
          refine ⟨i, IsU_of (by have := Hn.out; omega) (by rw [Hx.out]; exact hoi.out) (fun hh => by rw [Hx.out]; exact hoj.out (by have := Hn.out; omega)), rfl, ?_⟩
          exact hbw.trans ((Drawn0.below ⟨⟨_, rfl⟩⟩).mono hbw.size)
    have c5 : (0 : Int) < (x : Int) := by omega
    go_enter Tryd.func64, Tryd.ntmps64
    go_wp2_with fail
    go_quiet (first | (go_at_call 52; exact Calls.quiet_of_same (cU _)))
    go_wp2_with (first | (go_at_call 52; refine (cU _).mono ?_; rintro e w1 ⟨rfl, rfl⟩))
    go_loopw [6, 7] (fun iv jv wr => ∃ i j : Nat, iv = .int .i64 i ∧ jv = .int .i64 j ∧ i ≤ j ∧ j ≤ n ∧ Hid (off (sfx l) i ≤ x) ∧ Hid (j < n → x < off (sfx l) (j + 1)) ∧ Hid (wr.heap = w.heap) ∧ Below w.heap.size w wr)
      (fun iv jv _ => (intOf jv - intOf iv).toNat)
    case atStart =>
      exact ⟨0, n, rfl, rfl, by omega, by omega, by show off (sfx l) 0 ≤ _; rw [off_zero]; omega, fun hh => by omega, drewN_heap w _, Drawn0.below ⟨⟨_, rfl⟩⟩⟩
    case round =>
      obtain ⟨i, j, rfl, rfl, hij, hjn, hoi, hoj, hwh, hbw⟩ := hrel
      have hcw : Hid (∀ k, k ≤ n → wr.cell? ⟨g, k * 4, none⟩ = some (.int .i64 (off (sfx l) k : Nat))) := fun k hk => by
        rw [show wr.cell? ⟨g, k * 4, none⟩ = w.cell? ⟨g, k * 4, none⟩ by simp [World.cell?, hwh.out]]
        exact hcell.out k hk
      have k4 : wr.cell? ⟨p, 0, none⟩ = some (.slice (some ⟨g, 0, none⟩) (n + 1) cap) := by
        rw [show wr.cell? ⟨p, 0, none⟩ = w.cell? ⟨p, 0, none⟩ by simp [World.cell?, hwh.out]]
        exact h4
      by_cases hlt : i < j
      · obtain ⟨md, hmd⟩ : ∃ md, (i + j + 1) / 2 = md := ⟨_, rfl⟩
        have hmI : Int.tdiv ((i : Int) + (j : Int) + 1) 2 = (md : Int) := by rw [Int.tdiv_eq_ediv_of_nonneg (by omega)]; omega
        have hm1 : i < md := by omega
        have hm2 : md ≤ j := by omega
        have km := hcw.out md (by omega)
        clear hmd
        by_cases hc : off (sfx l) md ≤ x
        · have hcI : (off (sfx l) md : Int) ≤ (x : Int) := by omega
          go_wp2
          go_roundw
          case rel => exact ⟨md, j, rfl, rfl, hm2, hjn, hc, hoj, hwh, hbw⟩
          case measure => simp [intOf]; omega
        · have hcI : (x : Int) < (off (sfx l) md : Int) := by omega
          have hmd1 : wrap64 ((md : Int) - 1) = ((md - 1 : Nat) : Int) := by rw [w64 (by omega) (by omega)]; omega
          go_wp2
          go_roundw
          case rel =>
            refine ⟨i, md - 1, rfl, by go_num, by omega, by omega, hoi, ?_, hwh, hbw⟩
            show md - 1 < n → x < off (sfx l) (md - 1 + 1)
            rw [show md - 1 + 1 = md by omega]
            intro _
            omega
          case measure => simp [intOf]; omega
      · obtain rfl : i = j := by omega
        have ki := hcw.out i hjn
        go_wp2_with fail
        go_quiet (fail)
        go_wp2
        go_ret2
        refine ⟨i, IsU_of (by have := Hn.out; omega) (by rw [Hx.out]; exact hoi.out) (fun hh => by rw [Hx.out]; exact hoj.out (by have := Hn.out; omega)), rfl, ?_⟩
        exact hbw.trans ((Drawn0.below ⟨⟨_, rfl⟩⟩).mono hbw.size)
  · subst c2
    by_cases c0 : x = 0
    · subst c0
      go_enter Tryd.func64, Tryd.ntmps64
      go_wp2_with fail
      go_quiet (first | (go_at_call 52; exact Calls.quiet_of_same (cU _)))
      go_wp2_with (first | (go_at_call 52; refine (cU _).mono ?_; rintro e w1 ⟨rfl, rfl⟩))
      go_loopw [6, 7] (fun iv jv wr => ∃ i j : Nat, iv = .int .i64 i ∧ jv = .int .i64 j ∧ i ≤ j ∧ j ≤ n ∧ Hid (off (sfx l) i ≤ 0) ∧ Hid (j < n → 0 < off (sfx l) (j + 1)) ∧ Hid (wr.heap = w.heap) ∧ Below w.heap.size w wr)
        (fun iv jv _ => (intOf jv - intOf iv).toNat)
      case atStart =>
        exact ⟨0, n, rfl, rfl, by omega, by omega, by show off (sfx l) 0 ≤ _; rw [off_zero]; omega, fun hh => by omega, drewN_heap w _, Drawn0.below ⟨⟨_, rfl⟩⟩⟩
      case round =>
        obtain ⟨i, j, rfl, rfl, hij, hjn, hoi, hoj, hwh, hbw⟩ := hrel
        have hcw : Hid (∀ k, k ≤ n → wr.cell? ⟨g, k * 4, none⟩ = some (.int .i64 (off (sfx l) k : Nat))) := fun k hk => by
          rw [show wr.cell? ⟨g, k * 4, none⟩ = w.cell? ⟨g, k * 4, none⟩ by simp [World.cell?, hwh.out]]
          exact hcell.out k hk
        have k4 : wr.cell? ⟨p, 0, none⟩ = some (.slice (some ⟨g, 0, none⟩) (n + 1) cap) := by
          rw [show wr.cell? ⟨p, 0, none⟩ = w.cell? ⟨p, 0, none⟩ by simp [World.cell?, hwh.out]]
          exact h4
        by_cases hlt : i < j
        · obtain ⟨md, hmd⟩ : ∃ md, (i + j + 1) / 2 = md := ⟨_, rfl⟩
          have hmI : Int.tdiv ((i : Int) + (j : Int) + 1) 2 = (md : Int) := by rw [Int.tdiv_eq_ediv_of_nonneg (by omega)]; omega
          have hm1 : i < md := by omega
          have hm2 : md ≤ j := by omega
          have km := hcw.out md (by omega)
          clear hmd
          by_cases hc : off (sfx l) md ≤ 0
          · have hcI : (off (sfx l) md : Int) ≤ 0 := by omega
            go_wp2
            go_roundw
            case rel => exact ⟨md, j, rfl, rfl, hm2, hjn, hc, hoj, hwh, hbw⟩
            case measure => simp [intOf]; omega
          · have hcI : 0 < (off (sfx l) md : Int) := by omega
            have hmd1 : wrap64 ((md : Int) - 1) = ((md - 1 : Nat) : Int) := by rw [w64 (by omega) (by omega)]; omega
            go_wp2
            go_roundw
            case rel =>
              refine ⟨i, md - 1, rfl, by go_num, by omega, by omega, hoi, ?_, hwh, hbw⟩
              show md - 1 < n → 0 < off (sfx l) (md - 1 + 1)
              rw [show md - 1 + 1 = md by omega]
              intro _
              omega
            case measure => simp [intOf]; omega
        · obtain rfl : i = j := by omega
          have ki := hcw.out i hjn
          go_wp2_with fail
          go_quiet (fail)
          go_wp2
          go_ret2
          refine ⟨i, IsU_of (by have := Hn.out; omega) (by rw [Hx.out]; exact hoi.out) (fun hh => by rw [Hx.out]; exact hoj.out (by have := Hn.out; omega)), rfl, ?_⟩
          exact hbw.trans ((Drawn0.below ⟨⟨_, rfl⟩⟩).mono hbw.size)
    have c5 : (0 : Int) < (x : Int) := by omega
    go_enter Tryd.func64, Tryd.ntmps64
    go_wp2_with fail
    go_quiet (first | (go_at_call 52; exact Calls.quiet_of_same (cU _)))
    go_wp2_with (first | (go_at_call 52; refine (cU _).mono ?_; rintro e w1 ⟨rfl, rfl⟩))
    go_loopw [6, 7] (fun iv jv wr => ∃ i j : Nat, iv = .int .i64 i ∧ jv = .int .i64 j ∧ i ≤ j ∧ j ≤ n ∧ Hid (off (sfx l) i ≤ x) ∧ Hid (j < n → x < off (sfx l) (j + 1)) ∧ Hid (wr.heap = w.heap) ∧ Below w.heap.size w wr)
      (fun iv jv _ => (intOf jv - intOf iv).toNat)
    case atStart =>
      exact ⟨0, n, rfl, rfl, by omega, by omega, by show off (sfx l) 0 ≤ _; rw [off_zero]; omega, fun hh => by omega, drewN_heap w _, Drawn0.below ⟨⟨_, rfl⟩⟩⟩
    case round =>
      obtain ⟨i, j, rfl, rfl, hij, hjn, hoi, hoj, hwh, hbw⟩ := hrel
      have hcw : Hid (∀ k, k ≤ n → wr.cell? ⟨g, k * 4, none⟩ = some (.int .i64 (off (sfx l) k : Nat))) := fun k hk => by
        rw [show wr.cell? ⟨g, k * 4, none⟩ = w.cell? ⟨g, k * 4, none⟩ by simp [World.cell?, hwh.out]]
        exact hcell.out k hk
      have k4 : wr.cell? ⟨p, 0, none⟩ = some (.slice (some ⟨g, 0, none⟩) (n + 1) cap) := by
        rw [show wr.cell? ⟨p, 0, none⟩ = w.cell? ⟨p, 0, none⟩ by simp [World.cell?, hwh.out]]
        exact h4
      by_cases hlt : i < j
      · obtain ⟨md, hmd⟩ : ∃ md, (i + j + 1) / 2 = md := ⟨_, rfl⟩
        have hmI : Int.tdiv ((i : Int) + (j : Int) + 1) 2 = (md : Int) := by rw [Int.tdiv_eq_ediv_of_nonneg (by omega)]; omega
        have hm1 : i < md := by omega
        have hm2 : md ≤ j := by omega
        have km := hcw.out md (by omega)
        clear hmd
        by_cases hc : off (sfx l) md ≤ x
        · have hcI : (off (sfx l) md : Int) ≤ (x : Int) := by omega
          go_wp2
          go_roundw
          case rel => exact ⟨md, j, rfl, rfl, hm2, hjn, hc, hoj, hwh, hbw⟩
          case measure => simp [intOf]; omega
        · have hcI : (x : Int) < (off (sfx l) md : Int) := by omega
          have hmd1 : wrap64 ((md : Int) - 1) = ((md - 1 : Nat) : Int) := by rw [w64 (by omega) (by omega)]; omega
          go_wp2
          go_roundw
          case rel =>
            refine ⟨i, md - 1, rfl, by go_num, by omega, by omega, hoi, ?_, hwh, hbw⟩
            show md - 1 < n → x < off (sfx l) (md - 1 + 1)
            rw [show md - 1 + 1 = md by omega]
            intro _
            omega
          case measure => simp [intOf]; omega
      · obtain rfl : i = j := by omega
        have ki := hcw.out i hjn
        go_wp2_with fail
        go_quiet (fail)
        go_wp2
        go_ret2
        refine ⟨i, IsU_of (by have := Hn.out; omega) (by rw [Hx.out]; exact hoi.out) (fun hh => by rw [Hx.out]; exact hoj.out (by have := Hn.out; omega)), rfl, ?_⟩
        exact hbw.trans ((Drawn0.below ⟨⟨_, rfl⟩⟩).mono hbw.size)
end Go.Proofs.YtbkimhbpcmbflaaDoor.C
