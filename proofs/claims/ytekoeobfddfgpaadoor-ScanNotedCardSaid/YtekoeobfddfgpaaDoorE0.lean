/-
  glossarylaw05.works: it answers true; the tokens of a file, as they are read.
-/
import Derived.Test.YtekoeobfddfgpaaDoorD14
set_option linter.unusedVariables false
set_option linter.unusedSimpArgs false
namespace Go.Proofs.YtekoeobfddfgpaaDoor.C
open Go Go.RowKit Go.Shelf Go.Proofs.YtekoeobfddfgpaaDoor.M Go.Proofs.YtekoeobfddfgpaaDoor.Z

/-- a file's tokens in memory -/
structure Toks (W : World) (B : Nat) (v : Value) (l : List UInt8) (xs : List (Nat × List UInt8 × List UInt8)) (g cap : Nat) : Prop where
  v : v = .slice (some ⟨g, 0, none⟩) xs.length cap
  ge : B ≤ g
  lt : g < W.heap.size
  len : xs.length ≤ 9223372036854775807
  c0 : ∀ j y, xs[j]? = some y → W.cell? ⟨g, j * 5, none⟩ = some (.int .i64 (y.1 : Nat))
  c1 : ∀ j y, xs[j]? = some y → W.cell? ⟨g, j * 5 + 1, none⟩ = some (.string (ba y.2.1))
  c2 : ∀ j y, xs[j]? = some y → W.cell? ⟨g, j * 5 + 2, none⟩ = some (.int .i64 ((place l y.2.2).1 : Nat))
  c3 : ∀ j y, xs[j]? = some y → W.cell? ⟨g, j * 5 + 3, none⟩ = some (.int .i64 ((place l y.2.2).2 : Nat))
  c4 : ∀ j y, xs[j]? = some y → W.cell? ⟨g, j * 5 + 4, none⟩ = some (.int .i64 ((l.length - y.2.2.length : Nat) : Int))
theorem flatT_at {l : List UInt8} : ∀ {xs : List (Nat × List UInt8 × List UInt8)} {j : Nat} {y}, xs[j]? = some y → ∀ k, k < 5 → (flatT l xs)[j * 5 + k]? = (tokV l y)[k]? := by
  intro xs
  induction xs with
  | nil => intro j y h; simp at h
  | cons x xs ih =>
    intro j y h k hk
    have e : flatT l (x :: xs) = tokV l x ++ flatT l xs := by simp [flatT]
    have hx : (tokV l x).length = 5 := rfl
    rw [e]
    cases j with
    | zero =>
      simp at h; subst h
      rw [Nat.zero_mul, Nat.zero_add, List.getElem?_append_left (by omega)]
    | succ j =>
      rw [List.getElem?_append_right (by omega), hx, show (j + 1) * 5 + k - 5 = j * 5 + k by omega]
      exact ih (by simpa using h) k hk
theorem toks_of {W : World} {B : Nat} {v : Value} {l : List UInt8} {xs : List (Nat × List UInt8 × List UInt8)} (h : W.ownsRow B 30 5 v xs.length (flatT l xs)) (hn : xs ≠ []) : ∃ g cap, Toks W B v l xs g cap := by
  obtain ⟨g, cap, hv, hb, hlt⟩ := h.form (List.length_pos_iff.2 hn)
  have hm : xs.length ≤ 9223372036854775807 := by
    rcases h.2 with ⟨_, h1⟩ | ⟨g', cap', cur, he, _, _, h1, h2, _⟩
    · omega
    · simp only [maxLen] at h2
      omega
  have hc : ∀ j y k u, xs[j]? = some y → k < 5 → (tokV l y)[k]? = some u → W.cell? ⟨g, j * 5 + k, none⟩ = some u := by
    intro j y k u hj hk hu
    have := h.cells (g := g) (by rw [hv]; rfl) (j * 5 + k) u (by rw [flatT_at hj k hk]; exact hu)
    have hadd : (⟨g, 0, none⟩ : Addr).add (j * 5 + k) = ⟨g, j * 5 + k, none⟩ := by unfold Addr.add; split <;> simp_all
    rwa [hadd] at this
  exact ⟨g, cap, hv, hb, hlt, hm, fun j y hj => hc j y 0 _ hj (by decide) rfl, fun j y hj => hc j y 1 _ hj (by decide) rfl, fun j y hj => hc j y 2 _ hj (by decide) rfl, fun j y hj => hc j y 3 _ hj (by decide) rfl, fun j y hj => hc j y 4 _ hj (by decide) rfl⟩
theorem scan_lt : scanM [97, 32, 60] = ([(1, [97], [97, 32, 60]), (2, [60], [60]), (0, [], [])], none) := by decide +kernel
theorem scan_br : scanM [97, 32, 93] = ([(1, [97], [97, 32, 93])], some (25, [93])) := by decide +kernel
theorem bl_lt : bl ⟨#[97, 32, 60]⟩ = [97, 32, 60] := by decide
theorem bl_br : bl ⟨#[97, 32, 93]⟩ = [97, 32, 93] := by decide
theorem scanE_lt : scanE [97, 32, 60] = none := by decide +kernel
theorem scanE_br : scanE [97, 32, 93] = some (25, 1, 3) := by decide +kernel
set_option maxHeartbeats 4000000 in
set_option maxRecDepth 100000 in
theorem works_any (w : World) (hT : Lib.Utf8Tabs 1 2 w) (hg : w.cell? ⟨3, 0, none⟩ = some (.iface 116 (.agg #[.pointer (some ⟨4, 24, none⟩)]))) :
    Calls Tryd.prog 10 #[] w fun e w' => e = .returned (.bool true) ∧ Below w.heap.size w w' := by
  have cS := scan_any ⟨#[97, 32, 60]⟩ w (by decide) hT
  have hlt : 3 < w.heap.size := cell_blk hg
  have hlt1 : 1 < w.heap.size := cell_blk (hT.1 0 (by decide))
  have hlt2 : 2 < w.heap.size := cell_blk (hT.2 0 (by decide)).1
  go_enter Tryd.func10, Tryd.ntmps10
  go_wp2_with fail
  refine cS.mono ?_
  rintro e w1 ⟨hb1, hr⟩
  simp only [bl_lt, scanE_lt, scan_lt] at hr
  rcases hr with ⟨no, ln, cl, hr, _⟩ | ⟨_, v, rfl, hown⟩
  · cases hr
  obtain ⟨g, cap, hK⟩ := toks_of hown (by simp)
  have hT1 := tabs_below hT hb1 (Nat.le_refl _)
  have cS2 := scan_any ⟨#[97, 32, 93]⟩ w1 (by decide) hT1
  have hv : v = .slice (some ⟨g, 0, none⟩) (3 : Nat) cap := hK.v
  obtain rfl := hv
  clear cS hown
  go_wp2_with fail
  refine cS2.mono ?_
  rintro e w2 ⟨hb2, hr⟩
  simp only [bl_br, scanE_br, scan_br] at hr
  obtain ⟨no, ln, cl, ⟨rfl, rfl, rfl⟩, rfl⟩ : ∃ no ln cl : Nat, (25 = no ∧ 1 = ln ∧ 3 = cl) ∧ e = .returned (.tuple #[.slice none 0 0, Go.Proofs.YtekoeobfddfgpaaDoor.E.flt (no : Nat) (ln : Nat) (cl : Nat)]) := by
    rcases hr with ⟨no, ln, cl, hr, he⟩ | ⟨hr, _⟩
    · exact ⟨no, ln, cl, by simpa using hr, he⟩
    · cases hr
  clear cS2
  have k0 : w2.cell? ⟨g, 1, none⟩ = some (.string ⟨#[97]⟩) := (hb2.cell (p := ⟨g, 1, none⟩) hK.lt).trans (hK.c1 0 _ rfl)
  have k1 := (hb2.cell (p := ⟨g, 5, none⟩) hK.lt).trans (hK.c0 1 _ rfl)
  have hbb := hb1.trans (hb2.mono hb1.size)
  have cA := Go.Proofs.YtekoeobfddfgpaaDoor.E.at_fault 25 1 3 w2 (by decide) (by decide) ((hbb.cell (p := ⟨3, 0, none⟩) hlt).trans hg)
  have hl0 : (0 : Int) ≤ 0 := by decide
  clear hK
  go_wp2_with fail
  all_goals first | (refine cA.mono ?_) | skip
  rintro e w3 ⟨rfl, hb3⟩
  have HB := Lib.hid (hbb.trans (hb3.mono hbb.size))
  clear cA hb3 hbb
  go_wp2_with fail
  all_goals
    go_ret
    exact ⟨rfl, HB.out⟩
end Go.Proofs.YtekoeobfddfgpaaDoor.C
