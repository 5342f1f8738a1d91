/-
  Of this seat's texts what the claim wants (printed by a program): D8.
-/
import Derived.Test.YtekoeobfddfgpaaGreatDoorRD6
set_option linter.unusedVariables false
set_option linter.unusedSimpArgs false
namespace Go.Proofs.YtekoeobfddfgpaaGreatDoor.C
open Go Go.RowKit Go.Shelf Go.Proofs.YtekoeobfddfgpaaGreatDoor.M Go.Proofs.YtekoeobfddfgpaaGreatDoor.Z
theorem quo_short : ∀ n (r : List UInt8), r.length ≤ n → ∀ x, quo r = some x → x.1.length + 1 ≤ x.2 := by
  intro n
  induction n with
  | zero => intro r h x; have : r = [] := List.eq_nil_of_length_eq_zero (by omega); subst this; simp [quo]
  | succ n ih =>
    intro r h x
    match r with
    | [] => simp [quo]
    | [c] => simp only [quo]; split <;> simp; rintro rfl; simp
    | c :: d :: r =>
      simp only [quo]
      split
      · split
        · rw [Option.map_eq_some_iff]
          rintro ⟨y, hy, rfl⟩
          have := ih r (by simp at h; omega) y hy
          simp; omega
        · simp; rintro rfl; simp
      · rw [Option.map_eq_some_iff]
        rintro ⟨y, hy, rfl⟩
        have := ih (d :: r) (by simp at h ⊢; omega) y hy
        simp at this ⊢; omega
theorem validRune_okc {v : Nat} (h : Lib.validRune (v : Int) = true) : okc v := by
  unfold Lib.validRune at h
  have := of_decide_eq_true h
  unfold okc
  omega
theorem esc_short {r : List UInt8} {x : List UInt8 × Nat} (h : esc r = some x) : x.1.length ≤ x.2 := by
  cases r with
  | nil => simp [esc] at h
  | cons c r =>
    simp only [esc] at h
    split at h
    · split at h
      · simp at h
      · simp only [Option.some.injEq] at h
        subst h
        simp
    · split at h
      · cases r with
        | nil => simp at h
        | cons d q =>
          simp only at h
          split at h
          · simp at h
          · rename_i hn
            simp only [Option.some.injEq] at h
            subst h
            have h4 : Lib.validRune ((digs 6 q 0).1 : Nat) = true := by
              cases hv : Lib.validRune ((digs 6 q 0).1 : Nat) with
              | true => rfl
              | false => exact absurd (.inr (.inr (.inr hv))) hn
            have := (enc_len (validRune_okc h4)).2
            simp only; omega
      · simp only [Option.some.injEq] at h
        subst h
        simp only [List.length_take]; omega
theorem pieceM_short (t : List UInt8) : (pieceM t).1.length ≤ (pieceM t).2.1 := by
  cases t with
  | nil => simp [pieceM]
  | cons c r =>
    simp only [pieceM]
    split
    · split
      · rename_i x hx
        have := quo_short _ r (Nat.le_refl _) x hx
        simp only; omega
      · simp
    · split
      · split
        · rename_i x hx
          exact esc_short hx
        · simp
      · split
        · simp
        · simp only [List.length_take]; omega
def TI (t : List UInt8) (k : Nat) (out : List UInt8) : Prop := (textM t).1 = out ++ (textM (t.drop k)).1 ∧ (textM t).2.1 = k + (textM (t.drop k)).2.1 ∧ (textM t).2.2 = (textM (t.drop k)).2.2 ∧ k ≤ t.length ∧ out.length ≤ k
theorem TI.start (t : List UInt8) : TI t 0 [] := ⟨by simp, by simp, rfl, Nat.zero_le _, Nat.le_refl _⟩
theorem TI.next {t : List UInt8} {k : Nat} {out : List UInt8} (h : TI t k out) (hk : k < t.length) (he : (pieceM (t.drop k)).2.2 = 0) (hw : (pieceM (t.drop k)).2.1 ≠ 0) : TI t (k + (pieceM (t.drop k)).2.1) (out ++ (pieceM (t.drop k)).1) := by
  obtain ⟨h1, h2, h3, h4, h5⟩ := h
  have hne : t.drop k ≠ [] := ne_nil_of_lt hk
  have e := textM.eq_1 (t.drop k)
  rw [dif_neg hne, if_neg (by rw [he]; simp), dif_neg hw] at e
  have hwl := pieceM_w (t := t.drop k)
  rw [List.length_drop] at hwl
  have hsh := pieceM_short (t.drop k)
  rw [e] at h1 h2 h3
  rw [List.drop_drop] at h1 h2 h3
  refine ⟨by rw [h1, List.append_assoc], by rw [h2, Nat.add_assoc], h3, by omega, by rw [List.length_append]; omega⟩
theorem TI.bad {t : List UInt8} {k : Nat} {out : List UInt8} (h : TI t k out) (hk : k < t.length) (he : (pieceM (t.drop k)).2.2 ≠ 0) : (textM t).2.1 = k ∧ (textM t).2.2 = (pieceM (t.drop k)).2.2 := by
  obtain ⟨h1, h2, h3, h4, h5⟩ := h
  have hne : t.drop k ≠ [] := ne_nil_of_lt hk
  have e := textM.eq_1 (t.drop k)
  rw [dif_neg hne, if_pos he] at e
  rw [e] at h2 h3
  exact ⟨h2, h3⟩
theorem TI.stop {t : List UInt8} {k : Nat} {out : List UInt8} (h : TI t k out) (hk : k < t.length) (he : (pieceM (t.drop k)).2.2 = 0) (hw : (pieceM (t.drop k)).2.1 = 0) : textM t = (out, k, 0) := by
  obtain ⟨h1, h2, h3, h4, h5⟩ := h
  have hne : t.drop k ≠ [] := ne_nil_of_lt hk
  have e := textM.eq_1 (t.drop k)
  rw [dif_neg hne, if_neg (by rw [he]; simp), dif_pos hw] at e
  rw [e] at h1 h2 h3
  exact Prod.ext (by rw [h1]; simp) (Prod.ext h2 h3)
theorem TI.fin {t : List UInt8} {k : Nat} {out : List UInt8} (h : TI t k out) (hk : t.length ≤ k) : textM t = (out, k, 0) := by
  obtain ⟨h1, h2, h3, h4, h5⟩ := h
  have e : textM (t.drop k) = ([], 0, 0) := by rw [List.drop_eq_nil_of_le hk, textM]; simp
  rw [e] at h1 h2 h3
  exact Prod.ext (by rw [h1]; simp) (Prod.ext h2 h3)
def TextA (A : List UInt8 × Nat × Nat) (ln cl : Nat) (t : List UInt8) (e : Ending) : Prop :=
  (A.2.2 = 0 → e = .returned (.tuple #[.string (ba A.1), .int .i64 (A.2.1 : Nat), .nilIface])) ∧
  (A.2.2 ≠ 0 → e = .returned (.tuple #[.string ⟨#[]⟩, .int .i64 0, Go.Proofs.YtekoeobfddfgpaaGreatDoor.E.flt (A.2.2 : Nat) (skipP (ln, cl) (t.take A.2.1)).1 (skipP (ln, cl) (t.take A.2.1)).2]))
set_option maxHeartbeats 4000000 in
set_option maxRecDepth 100000 in
theorem text_any {w : World} {B b : Nat} {s : ByteArray} {p ln cl : Nat} {v : Value} {m : Nat} {xs : List Value} (h : Sc w B b s p ln cl v m xs) (hs : s.size ≤ 140737488351232) (hT : Lib.Utf8Tabs 2 3 w) (hB : B ≤ w.heap.size) (hvl : ∀ g, v.ownBlock = some g → g < w.heap.size) :
    Calls Tryz.prog 51 #[.pointer (some ⟨b, 0, none⟩)] w fun e w' => TextA (textM ((bl s).drop p)) ln cl ((bl s).drop p) e ∧ Below w.heap.size w w' := by
  obtain ⟨ao, na, ca, rfl⟩ : ∃ ao n' cap, v = .slice ao n' cap := by
    rcases h.row.2 with ⟨hv, _⟩ | ⟨g, cap, cur, hv, _⟩
    · exact ⟨_, _, _, hv⟩
    · exact ⟨_, _, _, hv⟩
  obtain ⟨t, ht⟩ : ∃ t, (bl s).drop p = t := ⟨_, rfl⟩
  rw [ht]
  obtain ⟨A, hA⟩ : ∃ A, textM t = A := ⟨_, rfl⟩
  have h0 := TI.start t
  rw [hA]
  obtain ⟨r, hr⟩ : ∃ r, s.extract p s.size = r := ⟨_, rfl⟩
  have hbr : bl r = t := by rw [← hr, bl_extract, ht]
  have hrl : r.size = t.length := by rw [← hbr, bl_len]
  have hrs : r.size ≤ 140737488351232 := by rw [← hr]; simp; omega
  have hbl : b < w.heap.size := lt_of_obj h.blk
  have kA : Keeps none' w (w.alloc (.cells #[.pointer none, .slice none 0 0] 90)) := Keeps.alloc _ _ _
  have h1 := h.keeps kA (fun h => h) (fun _ _ h => h)
  have hB1 := BI.new w
  have cRest := rest_any h1 hs
  rw [hr] at cRest
  have HA := Lib.hid hA
  have H0 := Lib.hid h0
  have Hs := Lib.hid h
  have Htab := Lib.hid hT
  have Hbr := Lib.hid hbr
  have Hrl := Lib.hid hrl
  clear hA h0 hr hbr kA h1 h hT hrl
  go_enter Tryz.func51, Tryz.ntmps51
  go_wp2_with fail
  refine cRest.mono ?_
  rintro e w1 ⟨rfl, q, rfl⟩
  have hB2 := hB1.drew (Keeps.drewN none' _ q) (fun _ h => h)
  generalize (w.alloc (.cells #[.pointer none, .slice none 0 0] 90)).drewN q = w1 at hB2 ⊢
  clear hB1 cRest
  go_wp2_with fail
  go_loopw [6] (fun n wr => ∃ (k : Nat) (out : List UInt8), n = .int .i64 k ∧ k ≤ r.size ∧ Hid (TI t k out) ∧ BI w out wr) (fun n _ => r.size - (intOf n).toNat)
  case atStart => exact ⟨0, [], rfl, Nat.zero_le _, H0, hB2⟩
  case round =>
    obtain ⟨k, out, rfl, hk, HQ, hB⟩ := hrel
    by_cases hlt : k < r.size
    · obtain ⟨P, hP⟩ : ∃ P, pieceM (t.drop k) = P := ⟨_, rfl⟩
      have hex : bl (r.extract k r.size) = t.drop k := by rw [bl_extract, Hbr.out]
      have hsz : (r.extract k r.size).size = r.size - k := by simp
      have cP := fun (W : World) (hb : Below w.heap.size w W) => piece_any (r.extract k r.size) (by omega) W (tabs_below Htab.out hb (Nat.le_refl _)) (by omega)
      rw [hex, hP] at cP
      have hkt : k < t.length := by rw [← Hrl.out]; exact hlt
      have ik : (k : Int) ≤ (r.size : Int) := by omega
      have hbel := hB.bel
      have hpw := pieceM_w (t := t.drop k)
      have hps := pieceM_short (t.drop k)
      rw [hP] at hpw hps
      rw [List.length_drop] at hpw
      have hrl := Hrl.out
      have hkeep : ∀ w', Below wr.heap.size wr w' → BI w out w' := fun w' hb => hB.drew (Keeps.of_below0 hb) (fun _ h => h)
      have HQk := Lib.hid hkeep
      have Hbel := Lib.hid hbel
      obtain ⟨o, d, no⟩ := P
      by_cases he : no = 0
      · subst he
        by_cases hw : d = 0
        · subst hw
          have hq := HQ.out.stop hkt (by rw [hP]) (by rw [hP])
          have HA2 : Hid (A = (out, k, 0)) := Lib.hid (by rw [← HA.out]; exact hq)
          have z1 : (((0 : Nat) : Int) != 0) = false := by decide
          have z2 : (((0 : Nat) : Int) == 0) = true := by decide
          clear hq HQ hB hP hkeep hbel hpw hps hrl hkt hex
          go_wp2_with fail
          refine (cP _ Hbel.out).mono ?_
          rintro e w2 ⟨rfl, hb⟩
          have cF := (HQk.out w2 hb).fin
          go_wp2_with fail
          refine cF.mono ?_
          rintro e w' ⟨rfl, hb⟩
          go_wp2_with fail
          go_ret3
          rw [HA2.out]
          exact ⟨⟨fun _ => rfl, fun h => absurd rfl h⟩, hb⟩
        · have hq := HQ.out.next hkt (by rw [hP]) (by rw [hP]; exact hw)
          rw [hP] at hq
          have HQ2 := Lib.hid hq
          have z1 : (((0 : Nat) : Int) != 0) = false := by decide
          have z2 : (((d : Nat) : Int) == 0) = false := by simp; omega
          have hol : out.length ≤ k := HQ.out.2.2.2.2
          have hlen : out.length + (ba o).size ≤ 140737488355328 := by rw [ba_size]; simp only at hpw hps; omega
          have hkd : k + d ≤ r.size := by simp only at hpw; omega
          clear hq HQ hB hP hkeep hbel hpw hps hrl hkt hex hol
          go_wp2_with fail
          refine (cP _ Hbel.out).mono ?_
          rintro e w2 ⟨rfl, hb⟩
          have cW := (HQk.out w2 hb).str (ba o) hlen
          rw [bl_ba] at cW
          clear hlen
          go_wp2_with fail
          refine cW.mono ?_
          rintro e w' ⟨rfl, hb⟩
          clear cW
          go_wp2_with fail
          go_roundw
          case rel => exact ⟨k + d, _, by go_num, hkd, HQ2, hb⟩
          case measure => simp [intOf]; omega
      · have hq := HQ.out.bad hkt (by rw [hP]; exact he)
        rw [hP] at hq
        obtain ⟨A1, A2, A3⟩ := A
        have ha := HA.out
        rw [ha] at hq
        simp only at hq
        obtain ⟨rfl, rfl⟩ := hq
        have z1 : (((A3 : Nat) : Int) != 0) = true := by simp; omega
        clear ha HQ hB hP hkeep hpw hps hrl hex
        go_wp2_with fail
        refine (cP _ Hbel.out).mono ?_
        rintro e w2 ⟨rfl, hb⟩
        have hk02 : Keeps none' w w2 := Keeps.of_below0 (Hbel.out.trans (hb.mono Hbel.out.size))
        have hS2 := Hs.out.keeps hk02 (fun h => h) (fun _ _ h => h)
        obtain ⟨c0, c1, c2, c3, c4⟩ := hS2.cells
        have hvb : w2.heap.size ≠ b := by have := hk02.size; omega
        clear cP hb hbel
        go_wp2_with fail
        obtain ⟨w3, hw3⟩ : ∃ w3, w2.alloc (.cells #[.string s, .int .i64 (p : Nat), .int .i64 (ln : Nat), .int .i64 (cl : Nat), .slice ao na ca] 51) = w3 := ⟨_, rfl⟩
        have k23 : Keeps none' w2 w3 := by rw [← hw3]; exact Keeps.alloc _ _ _
        have b3 : w3.heap[w2.heap.size]? = some (.cells #[.string s, .int .i64 (p : Nat), .int .i64 (ln : Nat), .int .i64 (cl : Nat), .slice ao na ca] 51 (0, 0)) := by rw [← hw3]; exact heap_alloc_new w2 _
        have k03 : Keeps none' w w3 := hk02.trans k23 (fun _ _ h => h)
        have hS3 : Sc w3 B w2.heap.size s p ln cl (.slice ao na ca) m xs := ⟨by have := hk02.size; omega, b3, owns_obj hS2.row k23 (fun _ _ h => h), fun e => by have := hvl _ e; have := hk02.size; omega, hS2.ps, hS2.lp, hS2.cp⟩
        have htl : t.length = s.size - p := by rw [← ht, List.length_drop, bl_len]
        have cK := skip_any hS3 hs A2 (by have := hS2.ps; omega)
        rw [ht] at cK
        rw [hw3]
        have Hk03 := Lib.hid k03
        have hz23 : w.heap.size ≤ w2.heap.size := hk02.size
        have hz3 : w2.heap.size + 1 ≤ w3.heap.size := by have := lt_of_obj b3; omega
        clear hw3 k23 b3 k03 hS3 hS2 hk02 c0 c1 c2 c3 c4 htl hkt ht
        go_wp2_with fail
        refine cK.mono ?_
        rintro e w4 ⟨rfl, hS4, k34⟩
        have cF := fault_any hS4 (A3 : Int)
        clear hS4 cK
        go_wp2_with fail
        refine cF.mono ?_
        rintro e w' ⟨rfl, q2, rfl⟩
        clear cF
        go_wp2_with fail
        go_ret3
        refine ⟨⟨fun e => absurd e he, fun _ => rfl⟩, ?_⟩
        exact (Hk03.out.below (Nat.le_refl _) (fun _ z => z.elim)).trans (((k34.trans (Keeps.drewN (fun k => k = w2.heap.size) _ _) (fun _ _ e => e))).below (by omega) (fun k e => by omega))
    · have hq := HQ.out.fin (by rw [← Hrl.out]; omega)
      have HA2 : Hid (A = (out, k, 0)) := Lib.hid (by rw [← HA.out]; exact hq)
      have cF := hB.fin
      clear hq HQ hB
      go_wp2_with fail
      refine cF.mono ?_
      rintro e w' ⟨rfl, hb⟩
      go_wp2_with fail
      go_ret3
      rw [HA2.out]
      exact ⟨⟨fun _ => rfl, fun h => absurd rfl h⟩, hb⟩
end Go.Proofs.YtekoeobfddfgpaaGreatDoor.C
