/-
  scan.all and scan.Scan, walked.
-/
import Derived.Test.YtekoeobfddfgpaaDoorD13
set_option linter.unusedVariables false
set_option linter.unusedSimpArgs false
namespace Go.Proofs.YtekoeobfddfgpaaDoor.C
open Go Go.RowKit Go.Shelf Go.Proofs.YtekoeobfddfgpaaDoor.M Go.Proofs.YtekoeobfddfgpaaDoor.Z

def JA (w : World) (B b : Nat) (s : ByteArray) (l : Nat) (t : List UInt8) (a : Act) (W : World) : Prop :=
  a.tmps = aFr b (fun i => a.tmps.getD i undef) ∧ a.defers = [] ∧ (∃ done p ln cl v, AL w B b s W t done p ln cl v) ∧ (l = 0 ∨ LabOK l t)
def muA (l : Nat) (t : List UInt8) : Nat := if l = 0 then 2 * t.length + 1 else 2 * t.length
set_option maxHeartbeats 4000000 in
set_option maxRecDepth 100000 in
theorem all_any {w : World} {B b : Nat} {s : ByteArray} {v : Value} (h : Sc w B b s 0 1 1 v 0 []) (hs : s.size ≤ 1048576) (hB : B ≤ w.heap.size) (hT : Lib.Utf8Tabs 1 2 w) (hTB : 1 < B ∧ 2 < B) :
    Calls Tryd.prog 16 #[.pointer (some ⟨b, 0, none⟩)] w fun e w' => ∃ x, e = .returned x ∧ AllP w B b s x w' := by
  have hA0 : AL w B b s w (bl s) [] 0 1 1 v := ⟨h, by simp, Ch.refl _, place_start _, by simp, Nat.le_refl _, Below.refl _ _⟩
  have tabs : ∀ {W : World}, Below B w W → Lib.Utf8Tabs 1 2 W := fun hb =>
    ⟨fun c hc => (hb.cell (p := ⟨1, c, none⟩) hTB.1).trans (hT.1 c hc), fun i hi => ⟨(hb.cell (p := ⟨2, 2 * i, none⟩) hTB.2).trans (hT.2 i hi).1, (hb.cell (p := ⟨2, 2 * i + 1, none⟩) hTB.2).trans (hT.2 i hi).2⟩⟩
  go_enter Tryd.func16, Tryd.ntmps16
  go_wp2
  have hend : ∀ a' W' x, a'.tmps = aFr b (fun i => a'.tmps.getD i undef) → a'.tmps.getD 2 undef = x → a'.defers = [] → AllP w B b s x W' → bodyPost Tryd.prog Tryd.f16 (fun e w' => ∃ x, e = .returned x ∧ AllP w B b s x w') .ret a' W' := by
    rintro ⟨tm, df⟩ W' x e1 e2 e3 hP
    dsimp only at e1 e2 e3
    subst e3
    generalize (fun i => tm.getD i undef) = g at e1
    subst e1
    refine bodyPost_ret (v := x) ?_ rfl ⟨x, rfl, hP⟩
    rw [← e2]
    simp [results, Tryd.results16, go_sem]
  refine scope_labels (JA w B b s) muA ?_ ?_
  · go_wp2
    go_step3
    refine ‹∀ (a : Act) (w : World), Code.wp _ _ _ a w → _› _ _ ?_
    refine all_next hA0 hs rfl (fun a' W' x e1 e2 e3 hP => hend a' W' x e1 e2 e3 hP) ?_
    intro k a' W' u p' ln' cl' e1 e2 hA' hL hlen
    exact ⟨u, e1, e2, ⟨_, _, _, _, _, hA'⟩, .inr hL⟩
  · rintro l t ⟨tm, df⟩ W ⟨e1, e2, ⟨done, p, ln, cl, v, hA⟩, hL⟩
    dsimp only at e1 e2
    subst e2
    have hT2 := tabs hA.bel
    rcases hL with rfl | hL
    · refine ⟨_, rfl, wp_seq (wp_skip ?_)⟩
      refine all_next hA hs e1 (fun a' W' x e1 e2 e3 hP => hend a' W' x e1 e2 e3 hP) ?_
      intro k a' W' u p' ln' cl' e1 e2 hA' hL hlen
      refine ⟨u, ⟨e1, e2, ⟨_, _, _, _, _, hA'⟩, .inr hL⟩, ?_⟩
      unfold muA
      rw [if_pos rfl, if_neg (by rintro rfl; exact hL)]
      omega
    · have hgo : ∀ a' W' u' d' p' ln' cl' v', a'.tmps = aFr b (fun i => a'.tmps.getD i undef) → a'.defers = [] → AL w B b s W' u' d' p' ln' cl' v' → u'.length < t.length → ∃ g', JA w B b s 0 g' a' W' ∧ muA 0 g' < muA l t := by
        intro a' W' u' d' p' ln' cl' v' e1 e2 hA' hlen
        refine ⟨u', ⟨e1, e2, ⟨_, _, _, _, _, hA'⟩, .inl rfl⟩, ?_⟩
        unfold muA
        rw [if_pos rfl, if_neg (by rintro rfl; exact hL)]
        omega
      match l, hL with
      | 1, hL =>
        refine ⟨_, rfl, wp_seq (wp_skip ?_)⟩
        exact all_remark hA hs hL e1 (fun a' W' u' p' ln' cl' => hgo a' W' u' _ p' ln' cl' _)
      | 2, hL =>
        refine ⟨_, rfl, wp_seq (wp_skip ?_)⟩
        exact all_option hA hs hL e1 (fun a' W' x e1 e2 e3 hP => hend a' W' x e1 e2 e3 hP) hgo
      | 3, hL =>
        refine ⟨_, rfl, wp_seq (wp_skip ?_)⟩
        exact all_sign hA hs hL e1 hgo
      | 4, hL =>
        refine ⟨_, rfl, wp_seq (wp_skip ?_)⟩
        exact all_text hA hs hL hT2 e1 (fun a' W' x e1 e2 e3 hP => hend a' W' x e1 e2 e3 hP) hgo
      | 0, hL => exact hL.elim
      | n + 5, hL => exact hL.elim
/-- how many lines a file has -/
def linesN (l : List UInt8) : Nat := l.count 10 + (if l ≠ [] ∧ l.getLast? ≠ some 10 then 1 else 0)
/-- the error of a file, its line, its place -/
def scanE (l : List UInt8) : Option (Nat × Nat × Nat) :=
  if 1048576 < l.length then some (5, 0, 0)
  else if 65536 < linesN l then some (5, 65537, 1)
  else match (scanM l).2 with
    | some x => some (x.1, place l x.2)
    | none => none
/-- what scan.Scan answers -/
def ScanP (s : ByteArray) (w : World) (e : Ending) (w' : World) : Prop :=
  Below w.heap.size w w' ∧
  ((∃ no ln cl, scanE (bl s) = some (no, ln, cl) ∧ e = .returned (.tuple #[.slice none 0 0, Go.Proofs.YtekoeobfddfgpaaDoor.E.flt (no : Nat) (ln : Nat) (cl : Nat)])) ∨
   (scanE (bl s) = none ∧ ∃ v, e = .returned (.tuple #[v, .nilIface]) ∧ w'.ownsRow w.heap.size 30 5 v (scanM (bl s)).1.length (flatT (bl s) (scanM (bl s)).1)))
noncomputable def scan6 : Code := (Tryd.f8.body.bind (sufAt 6)).getD .skip
def sFr (s : ByteArray) (L : Nat) (g : Nat → Value) : Array Value := #[.string s, g 1, g 2, g 3, .int .i64 (L : Nat), g 5, g 6, g 7, g 8, g 9, g 10, g 11, g 12, g 13, g 14, g 15, g 16, g 17, g 18, g 19, g 20, g 21, g 22, g 23, g 24, g 25, g 26, g 27, g 28, g 29, g 30, g 31, g 32, g 33, g 34, g 35, g 36, g 37, g 38, g 39, g 40, g 41]
set_option maxHeartbeats 4000000 in
set_option maxRecDepth 100000 in
theorem scan_tail {s : ByteArray} {w : World} {tm : Array Value} (hs : s.size ≤ 1048576) (hT : Lib.Utf8Tabs 1 2 w) (htm : tm = sFr s (linesN (bl s)) (fun i => tm.getD i undef)) :
    scan6.wp Tryd.prog (bodyPost Tryd.prog Tryd.f8 (ScanP s w)) { tmps := tm, defers := [] } w := by
  generalize (fun i => tm.getD i undef) = g at htm
  subst htm
  unfold sFr
  conv => arg 2; whnf
  have hl := bl_len s
  obtain ⟨L, hL⟩ : ∃ L, linesN (bl s) = L := ⟨_, rfl⟩
  rw [hL]
  by_cases h1 : 65536 < L
  · have hE : scanE (bl s) = some (5, 65537, 1) := by unfold scanE; rw [if_neg (by omega), if_pos (by rw [hL]; exact h1)]
    have i1 : (65536 : Int) < (L : Int) := by omega
    have HE := Lib.hid hE
    clear hE hl h1 hL hT
    go_wp2_with fail
    go_ret2
    exact ⟨Below.refl _ _, .inl ⟨5, 65537, 1, HE.out, rfl⟩⟩
  · have hE : scanE (bl s) = match (scanM (bl s)).2 with | some x => some (x.1, place (bl s) x.2) | none => none := by
      unfold scanE; rw [if_neg (by omega), if_neg (by rw [hL]; exact h1)]
    have i1 : (L : Int) ≤ 65536 := by omega
    have hlt1 : 1 < w.heap.size := cell_blk (hT.1 0 (by decide))
    have hlt2 : 2 < w.heap.size := cell_blk (hT.2 0 (by decide)).1
    obtain ⟨w1, hw1⟩ : ∃ w1, w.alloc (.cells #[.string s, .int .i64 0, .int .i64 1, .int .i64 1, .slice none 0 0] 43) = w1 := ⟨_, rfl⟩
    have hb1 : w1.heap[w.heap.size]? = some (.cells #[.string s, .int .i64 0, .int .i64 1, .int .i64 1, .slice none 0 0] 43 (0, 0)) := by rw [← hw1]; exact heap_alloc_new w _
    have hbel : Below w.heap.size w w1 := by rw [← hw1]; exact (Below.refl _ _).alloc (Nat.le_refl _) _
    have hSc : Sc w1 w.heap.size w.heap.size s 0 1 1 (.slice none 0 0) 0 [] := ⟨Nat.le_refl _, hb1, ⟨rfl, .inl ⟨rfl, rfl⟩⟩, by simp [Value.ownBlock], Nat.zero_le _, by omega, by omega⟩
    have cA := all_any hSc hs hbel.size (tabs_below hT hbel (Nat.le_refl _)) ⟨hlt1, hlt2⟩
    have HE := Lib.hid hE
    have Hb := Lib.hid hbel
    clear hE hl h1 hL hT hlt1 hlt2 hb1 hSc
    go_wp2_with fail
    refine cA.mono ?_
    rintro e w2 ⟨x, rfl, hP⟩
    obtain ⟨hP1, hP2, hP3⟩ := hP
    have hb2 := Hb.out.trans hP3
    clear cA
    cases hsm : (scanM (bl s)).2 with
    | none =>
      obtain ⟨rfl, p, ln, cl, v, hS⟩ := hP1 hsm
      obtain ⟨ao, na, ca, rfl⟩ : ∃ ao n' cap, v = .slice ao n' cap := by
        rcases hS.row.2 with ⟨hv, _⟩ | ⟨g, cap, cur, hv, _⟩
        · exact ⟨_, _, _, hv⟩
        · exact ⟨_, _, _, hv⟩
      have HF : Hid (ScanP s w (.returned (.tuple #[.slice ao na ca, .nilIface])) w2) := Lib.hid ⟨hb2, .inr ⟨by rw [HE.out, hsm], _, rfl, hS.row⟩⟩
      obtain ⟨c0, c1, c2, c3, c4⟩ := hS.cells
      clear hP1 hP2 hP3 hb2 hsm HE hS
      go_wp2_with fail
      go_ret2
      exact HF.out
    | some y =>
      obtain ⟨no, u⟩ := y
      have hx := hP2 no u hsm
      subst hx
      have HF : Hid (ScanP s w (.returned (.tuple #[.slice none 0 0, Go.Proofs.YtekoeobfddfgpaaDoor.E.flt (no : Nat) (place (bl s) u).1 (place (bl s) u).2])) w2) := Lib.hid ⟨hb2, .inl ⟨no, _, _, by rw [HE.out, hsm], rfl⟩⟩
      generalize (((place (bl s) u).1 : Nat) : Int) = L1 at HF ⊢
      generalize (((place (bl s) u).2 : Nat) : Int) = L2 at HF ⊢
      clear hP1 hP2 hP3 hb2 hsm HE
      unfold Go.Proofs.YtekoeobfddfgpaaDoor.E.flt at HF ⊢
      go_wp2_with fail
      go_ret2
      exact HF.out
set_option maxHeartbeats 4000000 in
set_option maxRecDepth 100000 in
theorem scan_any (s : ByteArray) (w : World) (hs : s.size ≤ 140737488351232) (hT : Lib.Utf8Tabs 1 2 w) :
    Calls Tryd.prog 8 #[.string s] w (ScanP s w) := by
  have hi' : 0 < s.size → s.size - 1 < s.size := fun _ => by omega
  have hl := bl_len s
  by_cases h1 : 1048576 < s.size
  · have hE : scanE (bl s) = some (5, 0, 0) := by unfold scanE; rw [if_pos (by rw [hl]; exact h1)]
    have i1 : (1048576 : Int) < (s.size : Int) := by omega
    have HE := Lib.hid hE
    clear hE hl h1
    go_enter Tryd.func8, Tryd.ntmps8
    go_wp2_with fail
    go_ret2
    exact ⟨Below.refl _ _, .inl ⟨5, 0, 0, HE.out, rfl⟩⟩
  · have i1 : (s.size : Int) ≤ 1048576 := by omega
    have cC := fun W => count_one s W
    obtain ⟨u, hu⟩ : ∃ u, (bl s).count 10 = u := ⟨_, rfl⟩
    rw [hu] at cC
    have hu2 : u ≤ s.size := by rw [← hu, ← hl]; exact List.count_le_length
    by_cases h0 : bl s = []
    · have hL : linesN (bl s) = u := by unfold linesN; rw [if_neg (by simp [h0]), hu]; rfl
      have tn : s.toList = [] := by rw [toList_bl]; exact h0
      have te : s.toList.isEmpty = true := by rw [tn]; rfl
      have HL := Lib.hid hL
      clear hL h0 hl hu
      go_enter Tryd.func8, Tryd.ntmps8
      go_wp2_with fail
      refine (cC _).mono ?_
      rintro e w' ⟨rfl, rfl⟩
      go_upto_region 4 with (fail)
      rename ∀ (a : Act) (w : World), Code.wp Tryd.prog (Code.seq (Code.seq (Code.region 6 _ _) _) _) _ a w → _ => hK
      have HK := Lib.hid hK
      clear hK cC
      go_wp2_with fail
      refine HK.out _ _ ?_
      exact scan_tail (by omega) hT (by rw [HL.out]; rfl)
    · have hne : 0 < s.size := by rw [← hl]; exact List.length_pos_iff.2 h0
      have tn : ¬ s.toList = [] := by rw [toList_bl]; exact h0
      have te : s.toList.isEmpty = false := by
        cases h : s.toList with
        | nil => exact absurd h tn
        | cons => rfl
      have hi : s.size - 1 < s.size := hi' hne
      have hlast : (bl s).getLast? = some (s[s.size - 1]'hi) := by
        rw [List.getLast?_eq_getElem?, hl, List.getElem?_eq_getElem (by omega), bl_get]
      obtain ⟨c, hc⟩ : ∃ c, s[s.size - 1]'hi = c := ⟨_, rfl⟩
      rw [hc] at hlast
      have hidx : ((s.size : Int) - 1).toNat = s.size - 1 := by omega
      have hge : (0 : Int) ≤ (s.size : Int) - 1 := by omega
      have hlt : (s.size : Int) - 1 < (s.size : Int) := by omega
      have hw64 : wrap64 ((u : Int) + 1) = (u : Int) + 1 := w64i (by omega) (by omega)
      by_cases h10 : c = 10
      · have t1 : (((s[s.size - 1]'hi).toNat : Int) != 10) = false := by rw [hc, h10]; rfl
        have hL : linesN (bl s) = u := by unfold linesN; rw [if_neg (by rw [hlast, h10]; simp), hu]; rfl
        have HL := Lib.hid hL
        clear hL h0 hl hu hc hlast h10 hw64
        go_enter Tryd.func8, Tryd.ntmps8
        go_wp2_with fail
        refine (cC _).mono ?_
        rintro e w' ⟨rfl, rfl⟩
        go_upto_region 4 with (fail)
        rename ∀ (a : Act) (w : World), Code.wp Tryd.prog (Code.seq (Code.seq (Code.region 6 _ _) _) _) _ a w → _ => hK
        have HK := Lib.hid hK
        clear hK cC
        go_wp2_with fail
        refine HK.out _ _ ?_
        exact scan_tail (by omega) hT (by rw [HL.out]; rfl)
      · have t1 : (((s[s.size - 1]'hi).toNat : Int) != 10) = true := by
          rw [hc]
          have := u8_neI (k := 10) h10
          simp only [beq_eq_false_iff_ne, ne_eq] at this
          simp only [bne_iff_ne, ne_eq]
          exact this
        have hL : linesN (bl s) = u + 1 := by unfold linesN; rw [if_pos ⟨h0, by rw [hlast]; simpa using h10⟩, hu]
        have HL := Lib.hid hL
        have hui : (u : Int) ≤ 1048576 := by omega
        clear hL h0 hl hu hc hlast h10 hw64
        go_enter Tryd.func8, Tryd.ntmps8
        go_wp2_with fail
        refine (cC _).mono ?_
        rintro e w' ⟨rfl, rfl⟩
        go_upto_region 4 with (fail)
        rename ∀ (a : Act) (w : World), Code.wp Tryd.prog (Code.seq (Code.seq (Code.region 6 _ _) _) _) _ a w → _ => hK
        have HK := Lib.hid hK
        clear hK cC
        go_wp2_with fail
        refine HK.out _ _ ?_
        exact scan_tail (by omega) hT (by rw [HL.out]; rfl)
end Go.Proofs.YtekoeobfddfgpaaDoor.C
