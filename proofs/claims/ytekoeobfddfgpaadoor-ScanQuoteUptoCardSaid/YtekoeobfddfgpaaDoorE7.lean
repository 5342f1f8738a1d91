/-
  glossaryref05.Quote, walked.
-/
import Derived.Test.YtekoeobfddfgpaaDoorEQ
import Derived.Test.YtekoeobfddfgpaaDoorG1
import Derived.Laws.BitsLemmas
import Derived.Deep.AppendLies
set_option linter.unusedVariables false
set_option linter.unusedSimpArgs false
namespace Go.Proofs.YtekoeobfddfgpaaDoor.C
open Go Go.RowKit Go.Shelf Go.Proofs.YtekoeobfddfgpaaDoor.M Go.Proofs.YtekoeobfddfgpaaDoor.Z Go.Proofs.YtekoeobfddfgpaaDoor.PAll

/-- a row of bytes of the call's own -/
def BR (w : World) (B : Nat) (v : Value) (bs : List UInt8) : Prop := w.ownsRow B 5 1 v bs.length (bcells bs)
theorem BR.nil (w : World) (B : Nat) : BR w B (.slice none 0 0) [] := ⟨rfl, .inl ⟨rfl, rfl⟩⟩
theorem BR.below {w w' : World} {B : Nat} {v : Value} {bs : List UInt8} (h : BR w B v bs) (hb : Below w.heap.size w w') : BR w' B v bs := owns_obj h (Keeps.of_below0 hb) (fun _ _ h => h)
theorem BR.grown {w w' : World} {B : Nat} {v : Value} {bs : List UInt8} (h : BR w B v bs) (hg : w.grownBy w' v.ownBlock) (hB : B ≤ w.heap.size) : Below B w w' :=
  (Keeps.of_grownBy (Z := fun k => B ≤ k) hg (fun r hr => by
    rcases h.2 with ⟨h, _⟩ | ⟨g1, cp, cur, e, hg, _⟩
    · subst h; cases hr
    · subst e; simp [Value.ownBlock] at hr; omega)).below hB (fun _ h => h)
theorem bcells_ones (bs : List UInt8) : ∀ u ∈ bcells bs, u.oneCell' = true := by
  intro u hu
  obtain ⟨y, _, rfl⟩ := List.mem_map.1 hu
  rfl
/-- append of an array of bytes, at the list of a plain region's operations -/
theorem wpList_bs {ops : Array Oper} {rest : List Oper} {o : Oper} {a : Act} {w : World} {Q : Exit → Act → World → Prop} (hgd : o.guard = none) (s x : Operand)
    (ho : o.op = .call { callee := .builtin .append, args := #[s, x], argTypes := #[46, 46] }) {B : Nat} {v : Value} {bs ys : List UInt8} (hs : a.eval s = v)
    (hown : BR w B v bs) (hB : B ≤ w.heap.size) (N m c : Nat) (hx : a.eval x = .slice (some ⟨N, 0, none⟩) m c) {cs : Array Value} {fr : Nat × Nat} (hc : w.heap[N]? = some (.cells cs 5 fr)) (hcs : cs.toList = bcells ys) (hm : ys.length = m) (hm0 : 0 < m) (hlen : bs.length + m ≤ 140737488355328)
    (h : ∀ v' w', BR w' B v' (bs ++ ys) → Below B w w' → Keeps (fun k => v.ownBlock = some k) w w' → (∀ g', v'.ownBlock = some g' → v.ownBlock = some g' ∨ w.heap.size ≤ g') → wpList Tryd.prog ops Q rest (a.put o.dst v') w') : wpList Tryd.prog ops Q (o :: rest) a w := by
  obtain ⟨i0, hi, hz0, hz1, hz2⟩ := info_parts Tryd.infoByte
  refine wpList_append_lies _ hgd s x 46 ho B 5 i0 (.int .u8 0) 1 1 Tryd.underlying46 hi hz0 hz1 hz2 rfl (by decide) v bs.length (bcells bs) hs hown ⟨N, 0, none⟩ m c (bcells ys) hx (by simp [bcells, hm]) (by rw [← hcs]; exact World.news_of_block hc) (bcells_ones ys) hm0 (by unfold maxLen; omega) (by omega) hB _ rfl ?_
  intro g cap w' hown' hgrow hlies hg2
  refine h _ w' ?_ (hown.grown hgrow hB) (Keeps.of_grownBy (Z := fun k => v.ownBlock = some k) hgrow (fun r e => e)) (fun g' hg' => by
    have : g = g' := by simpa [Value.ownBlock] using hg'
    subst this
    rcases hlies with e | e
    · exact .inl e
    · right; omega)
  unfold BR
  rw [List.length_append, bcells_append, hm]
  exact hown'
/-- the same, at a step of a region that draws -/
theorem step_bs {ops : Array Oper} {o : Oper} {a : Act} {w : World} {K : Act → World → Prop} {Q : Exit → Act → World → Prop} {E : Prop} (hgd : o.guard = none) (s x : Operand)
    (ho : o.op = .call { callee := .builtin .append, args := #[s, x], argTypes := #[46, 46] }) {B : Nat} {v : Value} {bs ys : List UInt8} (hs : a.eval s = v)
    (hown : BR w B v bs) (hB : B ≤ w.heap.size) (N m c : Nat) (hx : a.eval x = .slice (some ⟨N, 0, none⟩) m c) {cs : Array Value} {fr : Nat × Nat} (hc : w.heap[N]? = some (.cells cs 5 fr)) (hcs : cs.toList = bcells ys) (hm : ys.length = m) (hm0 : 0 < m) (hlen : bs.length + m ≤ 140737488355328)
    (h : ∀ v' w', BR w' B v' (bs ++ ys) → Below B w w' → Keeps (fun k => v.ownBlock = some k) w w' → (∀ g', v'.ownBlock = some g' → v.ownBlock = some g' ∨ w.heap.size ≤ g') → K (a.put o.dst v') w') : if Region.wanted o (yielded ops a.tmps) = true then Oper.wp Tryd.prog o a w K Q else E := by
  obtain ⟨i0, hi, hz0, hz1, hz2⟩ := info_parts Tryd.infoByte
  refine step_append_lies _ hgd s x 46 ho B 5 i0 (.int .u8 0) 1 1 Tryd.underlying46 hi hz0 hz1 hz2 rfl (by decide) v bs.length (bcells bs) hs hown ⟨N, 0, none⟩ m c (bcells ys) hx (by simp [bcells, hm]) (by rw [← hcs]; exact World.news_of_block hc) (bcells_ones ys) hm0 (by unfold maxLen; omega) (by omega) hB _ rfl ?_
  intro g cap w' hown' hgrow hlies hg2
  refine h _ w' ?_ (hown.grown hgrow hB) (Keeps.of_grownBy (Z := fun k => v.ownBlock = some k) hgrow (fun r e => e)) (fun g' hg' => by
    have : g = g' := by simpa [Value.ownBlock] using hg'
    subst this
    rcases hlies with e | e
    · exact .inl e
    · right; omega)
  unfold BR
  rw [List.length_append, bcells_append, hm]
  exact hown'
theorem signs_at : ∀ c : UInt8, glossaryref05_Signs.f 20 (c.toNat : Nat) = some (sgn c) := u8_all (by decide +kernel)
theorem signs_any (c : UInt8) (w : World) : Calls Tryd.prog 22 #[.int .u8 (c.toNat : Nat)] w fun e w' => e = .returned (.bool (sgn c)) ∧ Below w.heap.size w w' :=
  (glossaryref05_Signs.calls 20 (c.toNat : Nat) (sgn c) w (signs_at c)).mono fun e w' ⟨h1, h2⟩ => ⟨h1, h2.below⟩
theorem isPt_pt {t : List UInt8} (h : t ≠ []) : isPt (pt t : Nat) = true := by
  unfold isPt pt
  have h2 := d_facts h
  cases hi : ill t with
  | true =>
    have := ill_b0 h hi
    simp only [if_true]
    rw [Bool.or_eq_true]
    right
    simp; omega
  | false =>
    simp only [Bool.false_eq_true, if_false]
    rw [Bool.or_eq_true]
    left
    unfold Lib.validRune
    have := h2.2.2.2.1
    simp; omega
/-- a unit's bytes, by the document -/
theorem bytes_unit {t : List UInt8} (h : t ≠ []) (hi : ill t = false) (w : World) :
    Calls Tryd.prog 23 #[.int .i32 (pt t : Nat)] w fun e w' => ∃ g c, e = .returned (.slice (some ⟨g, 0, none⟩) (dw t) c) ∧ w.heap.size ≤ g ∧ g < w'.heap.size ∧ (∀ j u, (t.take (dw t))[j]? = some u → w'.cell? ⟨g, j, none⟩ = some (.int .u8 (u.toNat : Nat))) ∧ Below w.heap.size w w' := by
  have hb := bytes_at (pt t : Nat) (isPt_pt h)
  have hp : pb (pt t : Nat) = t.take (dw t) := by
    rw [pb_pt h, pt_of_ok hi, take_enc h hi]
    unfold pbytes
    rw [if_neg]
    have := okc_dc h
    unfold okc at this
    omega
  rw [hp] at hb
  refine (glossaryref02_Bytes.calls (pt t : Nat) _ w hb).mono ?_
  rintro e w' ⟨v, rfl, hr, hbw⟩
  have hr := R_row hr
  have hl : (nums8 (t.take (dw t))).length = dw t := by rw [nums8_len]; exact take_u h
  have hp := dw_pos h
  obtain ⟨g, cap, hv, hbb, hlt⟩ := hr.form (by omega)
  rw [hl] at hv
  refine ⟨g, cap, by rw [hv], hbb, hlt, fun j u hj => ?_, hbw⟩
  have := hr.cells (g := g) (by rw [hv]; rfl) j (.int .u8 (u.toNat : Nat)) (by unfold nums8; rw [List.getElem?_map, List.getElem?_map, hj]; rfl)
  have hadd : (⟨g, 0, none⟩ : Addr).add j = ⟨g, j, none⟩ := by unfold Addr.add; split <;> simp_all
  rwa [hadd] at this
theorem BR.conv {w : World} {B : Nat} {v : Value} {bs : List UInt8} (h : BR w B v bs) (hne : bs ≠ []) : (convert 46 9 v).run Tryd.prog w = .ok (.string (ba bs)) w := by
  obtain ⟨g, cap, hv, hb, hlt⟩ := h.form (List.length_pos_iff.2 hne)
  have hc := fun j u => h.cells (g := g) (by rw [hv]; rfl) j u
  subst hv
  refine run_convert_bytes_back (P := Tryd.prog) _ _ _ 5 ⟨g, 0, none⟩ cap bs Tryd.underlying46 Tryd.underlying5 Tryd.underlying9 (fun j hj => ?_)
  refine hc j _ ?_
  unfold bcells
  rw [List.getElem?_map, List.getElem?_eq_getElem hj]
  rfl
theorem hex_get : ∀ n, n < 16 → ∀ h, (⟨#[48, 49, 50, 51, 52, 53, 54, 55, 56, 57, 97, 98, 99, 100, 101, 102]⟩ : ByteArray)[n]'h = hexd n := by decide +kernel
theorem pts_at {l : List UInt8} {pre post : List (List UInt8)} {t : List UInt8} (h : sfx l = pre ++ t :: post) : (pts l)[pre.length]? = some ((pt t : Nat) : Int) := by
  unfold pts
  rw [h, List.map_append, List.getElem?_append_right (by simp)]
  simp
theorem pts_length (l : List UInt8) : (pts l).length = (sfx l).length := by unfold pts; rw [List.length_map]
set_option maxHeartbeats 8000000 in
set_option maxRecDepth 100000 in
theorem refq_any (s : ByteArray) (hs : s.size ≤ 1000000000000) (w : World) :
    Calls Tryd.prog 13 #[.string s] w fun e w' => e = .returned (.string (ba (quoteM (bl s)))) ∧ Below w.heap.size w w' := by
  have hbl := bl_len s
  by_cases h0 : s.toList = []
  · have hb0 : bl s = [] := by
      have : s.toList = bl s := by rw [ByteArray.toList_eq]
      rw [← this, h0]
    have hq : ba (quoteM (bl s)) = ⟨#[39, 39]⟩ := by rw [hb0]; rfl
    rw [hq]
    clear hq hb0 hbl
    go_enter Tryd.func13, Tryd.ntmps13
    go_wp2_with fail
    go_ret
    exact ⟨rfl, Below.refl _ _⟩
  · have hb0 : bl s ≠ [] := by
      have : s.toList = bl s := by rw [ByteArray.toList_eq]
      rw [← this]; exact h0
    have hq : quoteM (bl s) = quoteU (sfx (bl s)) := by unfold quoteM; rw [if_neg hb0]
    rw [hq]
    obtain ⟨Q, hQ⟩ : ∃ Q, quoteU (sfx (bl s)) = Q := ⟨_, rfl⟩
    rw [hQ]
    have HQ := Lib.hid hQ
    have h0b : s.toList.isEmpty = false := by cases h : s.toList with
      | nil => exact absurd h h0
      | cons a r => rfl
    obtain ⟨kk, hk⟩ := of_ref s (by omega)
    have cO := glossaryref02_Of.calls kk s _ w hk
    have hsl := sfx_len (bl s)
    obtain ⟨n, hn⟩ : ∃ n, (sfx (bl s)).length = n := ⟨_, rfl⟩
    have hn1 : 1 ≤ n := by rw [← hn, sfx_cons hb0]; simp
    have hnl : n ≤ 1000000000000 := by omega
    have hpl : (pts (bl s)).length = n := by rw [pts_length, hn]
    clear hq hb0 hQ hk
    go_enter Tryd.func13, Tryd.ntmps13
    go_wp2_with fail
    refine cO.mono ?_
    rintro e w1 ⟨v0, rfl, hr, hb1⟩
    obtain ⟨A, c, rfl, hc, hrd⟩ := R_rd hr
    rw [hpl] at hc ⊢
    obtain ⟨ad, rfl, hal, hac⟩ : ∃ x : Addr, A = some x ∧ x.block < w1.heap.size ∧ ∀ j u, (pts (bl s))[j]? = some u → w1.cell? (x.add j) = some (.int .i32 u) := by
      rcases hrd with h0 | h
      · rw [h0] at hpl; simp at hpl; omega
      · exact h
    have Hac := Lib.hid hac
    have HB1 := Lib.hid hb1
    have Hn := Lib.hid hn
    clear hr hrd cO hac hb1 hpl hn hsl
    go_wp2_with fail
    go_loopw [4, 6] (fun ov iv wr => ∃ (pre post : List (List UInt8)), iv = .int .i64 (pre.length : Nat) ∧ Hid (sfx (bl s) = pre ++ post) ∧ Hid (BR wr w1.heap.size ov (quoteU pre)) ∧ Below w1.heap.size w1 wr) (fun _ v _ => n - (intOf v).toNat)
    case atStart => exact ⟨[], sfx (bl s), rfl, by simp [Hid], Lib.hid (BR.nil _ _), Below.refl _ _⟩
    case round =>
      obtain ⟨pre, post, rfl, hpre, HR, hb⟩ := hrel
      have hn := Hn.out
      rw [hpre.out, List.length_append] at hn
      cases post with
      | nil =>
        rw [List.length_nil, Nat.add_zero] at hn
        have hq : quoteU pre = Q := by rw [← HQ.out, hpre.out, List.append_nil]
        have hqn : Q ≠ [] := by
          rw [← hq]
          cases pre with
          | nil => rw [List.length_nil] at hn; omega
          | cons t pre =>
            have ht : t ≠ [] := sfx_ne (l := bl s) (by rw [hpre.out]; simp)
            have := qU_pos ht
            rw [quoteU_cons]
            intro e
            have := congrArg List.length e
            rw [List.length_append, List.length_nil] at this
            omega
        have hcv := HR.out
        rw [hq] at hcv
        have hcv := hcv.conv hqn
        have hni : ¬ (pre.length : Int) < (n : Int) := by omega
        have HBf := Lib.hid (HB1.out.trans (hb.mono HB1.out.size))
        clear hpre hq hqn HR hn hb
        go_wp2_with fail
        go_ret
        exact ⟨rfl, HBf.out⟩
      | cons t post =>
        rw [List.length_cons] at hn
        have hni : (pre.length : Int) < (n : Int) := by omega
        have hcell := (hb.cell (p := ad.add pre.length) (by rw [add_block]; exact hal)).trans (Hac.out _ _ (pts_at hpre.out))
        have hne : t ≠ [] := sfx_ne (l := bl s) (by rw [hpre.out]; simp)
        have hqU : ∃ q, qU t = q := ⟨_, rfl⟩
        obtain ⟨q, hqU⟩ := hqU
        have hql := qU_len hne
        have hq2 := quoteU_snoc pre t
        rw [hqU] at hq2 hql
        have hpre2 : Hid (sfx (bl s) = (pre ++ [t]) ++ post) := Lib.hid (by rw [hpre.out]; simp)
        have hlo : (quoteU pre).length ≤ 6 * pre.length := quoteU_len pre (fun t ht => sfx_ne (l := bl s) (by rw [hpre.out]; simp [ht]))
        have hlo2 : (quoteU pre).length + 6 ≤ 140737488355328 := by omega
        have hms : Hid (n - (pre.length + 1) < n - pre.length) := Lib.hid (by omega)
        obtain ⟨p, hp⟩ : ∃ p, pt t = p := ⟨_, rfl⟩
        rw [hp] at hcell
        have hpU : p ≤ 1200000 := by
          rw [← hp]; unfold pt
          have := u8_lt (t.getD 0 0)
          have h3 : b0 t < 256 := u8_lt _
          have h4 := okc_dc hne
          unfold okc at h4
          split <;> omega
        obtain ⟨b, hbe⟩ : ∃ b, p % 256 = b := ⟨_, rfl⟩
        have g2 : IntKind.u8.wrap (p : Int) = (b : Int) := by rw [IntKind.wrap_u8]; omega
        have g3 : IntKind.i64.wrap (p : Int) = (p : Int) := wrap_in (by omega) (by omega)
        have g4 : IntKind.i32.wrap (p : Int) = (p : Int) := by rw [IntKind.wrap_i32]; omega
        obtain ⟨x, hx⟩ : ∃ x, b / 16 = x := ⟨_, rfl⟩
        obtain ⟨y, hy⟩ : ∃ y, b % 16 = y := ⟨_, rfl⟩
        have hx16 : x < 16 := by omega
        have hy16 : y < 16 := by omega
        have d1 : ((b : Nat) : Int) / 16 = (x : Nat) := by omega
        have d2 : ((b : Nat) : Int) % 16 = (y : Nat) := by omega
        have d3 : Int.tdiv ((b : Nat) : Int) 16 = (x : Nat) := by rw [Int.tdiv_eq_ediv_of_nonneg (by omega)]; omega
        have d4 : Int.tmod ((b : Nat) : Int) 16 = (y : Nat) := by rw [Int.tmod_eq_emod_of_nonneg (by omega)]; omega
        have d5 : (x : Int) < 16 := by omega
        have d6 : (y : Int) < 16 := by omega
        have fx1 : IntKind.u8.wrap (x : Int) = (x : Int) := by rw [IntKind.wrap_u8]; omega
        have fx2 : IntKind.u8.wrap (y : Int) = (y : Int) := by rw [IntKind.wrap_u8]; omega
        have xa : ∀ h, (⟨#[48, 49, 50, 51, 52, 53, 54, 55, 56, 57, 97, 98, 99, 100, 101, 102]⟩ : ByteArray)[x]'h = hexd x := fun h => hex_get x hx16 h
        have ya : ∀ h, (⟨#[48, 49, 50, 51, 52, 53, 54, 55, 56, 57, 97, 98, 99, 100, 101, 102]⟩ : ByteArray)[y]'h = hexd y := fun h => hex_get y hy16 h
        by_cases hill : ill t = true
        · have hb0 : b0 t = b := by
            have h3 : b0 t < 256 := u8_lt _
            unfold pt at hp
            rw [if_pos hill] at hp
            omega
          have g1 : (1114112 : Int) ≤ (p : Int) := by
            unfold pt at hp
            rw [if_pos hill] at hp
            omega
          have hcat : quoteU pre ++ [92, 120, hexd x, hexd y] = quoteU (pre ++ [t]) := by rw [hq2, ← hqU, qU, if_pos hill, hb0, hx, hy]
          clear hbe hpU
          go_wp2_with fail
          go_region_law (refine step_bs rfl (.tmp 56) (.tmp 65) rfl (by simp [Act.eval, Act.put]) (HR.out.below (by exact ((Below.refl _ _).drew).alloc (Nat.le_refl _) _)) (by simp; exact Nat.le_trans hb.size (Nat.le_add_right _ _)) wr.heap.size 4 4 (by simp [Act.eval, Act.put]) (by exact heap_alloc_new wr.drew _) (ys := [92, 120, hexd x, hexd y]) rfl rfl (by decide) (by omega) ?_; intro v2 w2 hR2 hB2 _ _)
          all_goals
            rw [hcat] at hR2
            have HR2 := Lib.hid hR2
            have HB2 := Lib.hid (((hb.drew).alloc hb.size _).trans hB2)
            clear hR2 hB2 HR hb
            go_wp2_with fail
            go_roundw
            case rel => exact ⟨pre ++ [t], post, by rw [List.length_append]; go_num, hpre2, HR2, HB2.out⟩
            case measure => simp [intOf]; exact hms.out
        · have hil : ill t = false := by simpa using hill
          have hpd : dc t = p := by rw [← hp, pt_of_ok hil]
          have hpm : p ≤ 1114111 := by
            have := okc_dc hne
            unfold okc at this
            omega
          have g1 : decide ((1114112 : Int) ≤ (p : Int)) = false := by rw [decide_eq_false_iff_not]; omega
          by_cases h32 : p ≤ 32 ∨ p = 127
          · have hlow := unit_low hne (by omega)
            have hb0 : b0 t = b := by omega
            have hbp : b = p := by omega
            have hr : (p : Int) ≤ 32 ∨ (32 < (p : Int) ∧ ((p : Int) == 127) = true) := by
              by_cases h : p ≤ 32
              · exact .inl (by omega)
              · exact .inr ⟨by omega, by simp; omega⟩
            by_cases h16 : p < 16
            · have g5 : decide ((16 : Int) ≤ (p : Int)) = false := by rw [decide_eq_false_iff_not]; omega
              have hcat : quoteU pre ++ [92, 117, 123] ++ [hexd y, 125] = quoteU (pre ++ [t]) := by
                rw [hq2, ← hqU, qU, if_neg hill, if_pos (by omega), hb0, show b = y by omega, List.append_assoc]; rfl
              clear hbe hpU hlow h32 hpm hp hpd hbp hb0 h16
              have hlo3 := hlo2
              rcases hr with r1 | ⟨r1, r2⟩
              all_goals
                go_wp2_with (at_builtin; first | (refine wpList_bs rfl (.tmp 74) (.tmp 75) rfl (by simp [Act.eval, Act.put]) (HR.out.below (by exact (Below.refl _ _).alloc (Nat.le_refl _) _)) (by simp; exact Nat.le_trans hb.size (Nat.le_add_right _ _)) wr.heap.size 3 3 (by simp [Act.eval, Act.put]) (by exact heap_alloc_new wr _) (ys := [92, 117, 123]) rfl rfl (by decide) (by simp; omega) ?_; intro v2 w2 hR2 hB2 _ _; have hb2 := (hb.alloc hb.size _).trans hB2; clear hB2) | (refine wpList_bs rfl (.tmp 86) (.tmp 91) rfl (by simp [Act.eval, Act.put]) (hR2.below (by exact (Below.refl _ _).alloc (Nat.le_refl _) _)) (by simp; exact Nat.le_trans hb2.size (Nat.le_add_right _ _)) w2.heap.size 2 2 (by simp [Act.eval, Act.put]) (by exact heap_alloc_new w2 _) (ys := [hexd y, 125]) rfl rfl (by decide) (by simp; omega) ?_; intro v3 w3 hR3 hB3 _ _; have hb3 := (hb2.alloc hb2.size _).trans hB3; clear hB3))
                have HRe := Lib.hid (show BR w3 w1.heap.size v3 (quoteU (pre ++ [t])) by rw [← hcat]; exact hR3)
                have HBe := Lib.hid hb3
                clear hR2 hb2 hR3 hb3 HR hb
                go_wp2_with fail
                go_roundw
                case rel => exact ⟨pre ++ [t], post, by rw [List.length_append]; go_num, hpre2, HRe, HBe.out⟩
                case measure => simp [intOf]; exact hms.out
            · have g5 : (16 : Int) ≤ (p : Int) := by omega
              have hcat : quoteU pre ++ [92, 117, 123] ++ [hexd x] ++ [hexd y, 125] = quoteU (pre ++ [t]) := by
                rw [hq2, ← hqU, qU, if_neg hill, if_neg (by omega), if_pos (by omega), hb0, hx, hy, List.append_assoc, List.append_assoc]; rfl
              clear hbe hpU hlow h32 hpm hp hpd hbp hb0 h16
              rcases hr with r1 | ⟨r1, r2⟩
              all_goals
                go_wp2_with (at_builtin; first | (refine wpList_bs rfl (.tmp 74) (.tmp 75) rfl (by simp [Act.eval, Act.put]) (HR.out.below (by exact (Below.refl _ _).alloc (Nat.le_refl _) _)) (by simp; exact Nat.le_trans hb.size (Nat.le_add_right _ _)) wr.heap.size 3 3 (by simp [Act.eval, Act.put]) (by exact heap_alloc_new wr _) (ys := [92, 117, 123]) rfl rfl (by decide) (by simp; omega) ?_; intro v2 w2 hR2 hB2 _ _; have hb2 := (hb.alloc hb.size _).trans hB2; clear hB2) | (refine wpList_bs rfl (.tmp 79) (.tmp 84) rfl (by simp [Act.eval, Act.put]) (hR2.below (by exact (Below.refl _ _).alloc (Nat.le_refl _) _)) (by simp; exact Nat.le_trans hb2.size (Nat.le_add_right _ _)) w2.heap.size 1 1 (by simp [Act.eval, Act.put]) (by exact heap_alloc_new w2 _) (ys := [hexd x]) rfl rfl (by decide) (by simp; omega) ?_; intro v3 w3 hR3 hB3 _ _; have hb3 := (hb2.alloc hb2.size _).trans hB3; clear hB3) | (refine wpList_bs rfl (.tmp 86) (.tmp 91) rfl (by simp [Act.eval, Act.put]) (hR3.below (by exact (Below.refl _ _).alloc (Nat.le_refl _) _)) (by simp; exact Nat.le_trans hb3.size (Nat.le_add_right _ _)) w3.heap.size 2 2 (by simp [Act.eval, Act.put]) (by exact heap_alloc_new w3 _) (ys := [hexd y, 125]) rfl rfl (by decide) (by simp; omega) ?_; intro v4 w4 hR4 hB4 _ _; have hb4 := (hb3.alloc hb3.size _).trans hB4; clear hB4))
                have HRe := Lib.hid (show BR w4 w1.heap.size v4 (quoteU (pre ++ [t])) by rw [← hcat]; exact hR4)
                have HBe := Lib.hid hb4
                clear hR2 hb2 hR3 hb3 hR4 hb4 HR hb
                go_wp2_with fail
                go_roundw
                case rel => exact ⟨pre ++ [t], post, by rw [List.length_append]; go_num, hpre2, HRe, HBe.out⟩
                case measure => simp [intOf]; exact hms.out
          · have r1 : decide ((p : Int) ≤ 32) = false := by rw [decide_eq_false_iff_not]; omega
            have r2 : ((p : Int) == 127) = false := by simp; omega
            obtain ⟨d, hd⟩ : ∃ d, dw t = d := ⟨_, rfl⟩
            obtain ⟨T, hT⟩ : ∃ T, t.take d = T := ⟨_, rfl⟩
            have hTd : T.length = d := by rw [← hT, ← hd]; exact take_u hne
            have hd4 : d ≤ 4 := by rw [← hTd, ← hT, ← hd, take_enc hne hil]; exact (enc_len (okc_dc hne)).2
            have cB := fun W => bytes_unit hne hil W
            rw [hp, hd, hT] at cB
            have hqv : q = (if p < 128 ∧ sgn (t.getD 0 0) = true then 92 :: T else T) := by
              rw [← hqU, qU, if_neg hill, if_neg (by omega), if_neg (by omega), hpd, hd, hT]
            by_cases h128 : p < 128
            · have hlow := unit_low hne (by omega)
              have hcb : (t.getD 0 0).toNat = b := by
                have : b0 t = (t.getD 0 0).toNat := rfl
                omega
              have cG := fun W => signs_any (t.getD 0 0) W
              rw [hcb] at cG
              have t1 : (p : Int) < 128 := by omega
              obtain ⟨sg, hsg⟩ : ∃ sg, sgn (t.getD 0 0) = sg := ⟨_, rfl⟩
              rw [hsg] at cG hqv
              obtain ⟨base, hbase⟩ : ∃ base, (if sg = true then quoteU pre ++ [92] else quoteU pre) = base := ⟨_, rfl⟩
              have hcat : base ++ T = quoteU (pre ++ [t]) := by
                rw [hq2, hqv, ← hbase]
                cases sg <;> simp [h128]
              have hbl : base.length + 5 ≤ 140737488355322 := by rw [← hbase]; split <;> simp <;> omega
              clear hbe hpU hlow h32 hpm hp hpd h128 hcb hqv hT hd hsg
              cases sg with
              | true =>
                simp only [if_true] at hbase
                go_wp2_with fail
                refine (cG _).mono ?_
                rintro e w9 ⟨rfl, hb9⟩
                go_wp2_with (at_builtin; first | (refine wpList_bs rfl (.tmp 34) (.tmp 35) rfl (by simp [Act.eval, Act.put]) ((HR.out.below hb9).below (by exact (Below.refl _ _).alloc (Nat.le_refl _) _)) (by simp; exact Nat.le_trans (hb.trans (hb9.mono hb.size)).size (Nat.le_add_right _ _)) w9.heap.size 1 1 (by simp [Act.eval, Act.put]) (by exact heap_alloc_new w9 _) (ys := [92]) rfl rfl (by decide) (by simp; omega) ?_; intro v2 w2 hR2 hB2 _ _; have hb2 := ((hb.trans (hb9.mono hb.size)).alloc (hb.trans (hb9.mono hb.size)).size _).trans hB2; clear hB2))
                rw [hbase] at hR2
                have HRx := Lib.hid hR2
                have hbx := hb2
                clear hR2 hb2 HR hb cG hb9
                go_wp2_with fail
                refine (cB _).mono ?_
                rintro e w5 ⟨g, cc, rfl, hg1, hg2, hcl, hb5⟩
                have HR5 := Lib.hid (HRx.out.below hb5)
                have hb15 := hbx.trans (hb5.mono hbx.size)
                have hlt5 := fun g' hg' => HRx.out.lt g' hg'
                clear cB hb5 HRx hbx
                go_wp2_with fail
                go_loopw [4, 10] (fun ov kv wr2 => ∃ k : Nat, kv = .int .i64 k ∧ k ≤ d ∧ Hid (BR wr2 w1.heap.size ov (base ++ T.take k)) ∧ Hid (Below w1.heap.size w1 wr2) ∧ Hid (∀ j u, T[j]? = some u → wr2.cell? ⟨g, j, none⟩ = some (.int .u8 (u.toNat : Nat))) ∧ g < wr2.heap.size ∧ (∀ g', ov.ownBlock = some g' → g' ≠ g)) (fun _ v _ => d - (intOf v).toNat)
                case atStart => exact ⟨0, rfl, Nat.zero_le _, Lib.hid (by rw [List.take_zero, List.append_nil]; exact HR5.out), Lib.hid hb15, Lib.hid hcl, hg2, fun g' hg' => by have := (hlt5 g' hg').2; omega⟩
                case round =>
                  obtain ⟨k, rfl, hkd, HR6, hb6, hcl6, hg6, hne6⟩ := hrel
                  have hb6' := hb6.out
                  by_cases hk : k < d
                  · obtain ⟨u, hu⟩ : ∃ u, T[k]? = some u := ⟨_, List.getElem?_eq_getElem (by omega)⟩
                    have hki : (k : Int) < (d : Int) := by omega
                    have hc6 := hcl6.out k u hu
                    have htk : base ++ T.take (k + 1) = base ++ T.take k ++ [u] := by rw [List.take_add_one, hu, List.append_assoc]; rfl
                    have hbl6 : (base ++ T.take k).length ≤ 140737488355322 := by rw [List.length_append, List.length_take]; omega
                    obtain ⟨bk, hbk⟩ : ∃ bk, base ++ T.take k = bk := ⟨_, rfl⟩
                    rw [hbk] at htk hbl6 HR6
                    clear hcl hb15 HR5 hlt5 hg1 hg2 hu
                    go_wp2_with (at_builtin; refine wpList_bs rfl (.tmp 46) (.tmp 51) rfl (by simp [Act.eval, Act.put]) (HR6.out.below (by exact (Below.refl _ _).alloc (Nat.le_refl _) _)) (by simp; exact Nat.le_trans hb6'.size (Nat.le_add_right _ _)) wr.heap.size 1 1 (by simp [Act.eval, Act.put]) (by exact heap_alloc_new wr _) (ys := [u]) rfl rfl (by decide) (by omega) ?_; intro v7 w7 hR7 hB7 hk7 ho7)
                    have hk67 := (Keeps.alloc (Z := fun k => Value.ownBlock _ = some k) wr _).trans hk7 (fun _ _ e => e)
                    have hcl7 := Lib.hid (fun j u hj => hk67.cell (hcl6.out j u hj) (fun e => hne6 _ e rfl))
                    have HR7 := Lib.hid (show BR w7 w1.heap.size v7 (base ++ T.take (k + 1)) by rw [htk]; exact hR7)
                    have HB7 := Lib.hid ((hb6'.alloc hb6'.size _).trans hB7)
                    have hg7 : g < w7.heap.size := Nat.lt_of_lt_of_le hg6 hk67.size
                    have ho7' : ∀ g', v7.ownBlock = some g' → g' ≠ g := fun g' hg' => (ho7 g' hg').elim (hne6 g') (fun e => by simp at e; omega)
                    clear hR7 hB7 hk7 ho7 hk67 HR6 hb6 hb6' hcl6 hne6 hc6
                    go_wp2_with fail
                    go_roundw
                    case rel => exact ⟨k + 1, by go_num, hk, HR7, HB7, hcl7, hg7, ho7'⟩
                    case measure => simp [intOf]; omega
                  · have hkd2 : k = d := by omega
                    subst hkd2
                    have HRe := HR6.out
                    rw [List.take_of_length_le (by omega), hcat] at HRe
                    have HRe := Lib.hid HRe
                    have hki : ¬ (k : Int) < (k : Int) := by omega
                    clear hcl hb15 HR5 hlt5 hg1 hg2 HR6 hcl6 hne6 hk
                    go_wp2_with fail
                    go_roundw
                    case rel => exact ⟨pre ++ [t], post, by rw [List.length_append]; go_num, hpre2, HRe, hb6'⟩
                    case measure => simp [intOf]; exact hms.out
              | false =>
                simp only [Bool.false_eq_true, if_false] at hbase
                go_wp2_with fail
                refine (cG _).mono ?_
                rintro e w9 ⟨rfl, hb9⟩
                have HRx := HR.out.below hb9
                rw [hbase] at HRx
                have HRx := Lib.hid HRx
                have hbx := hb.trans (hb9.mono hb.size)
                clear HR hb cG hb9
                go_wp2_with fail
                refine (cB _).mono ?_
                rintro e w5 ⟨g, cc, rfl, hg1, hg2, hcl, hb5⟩
                have HR5 := Lib.hid (HRx.out.below hb5)
                have hb15 := hbx.trans (hb5.mono hbx.size)
                have hlt5 := fun g' hg' => HRx.out.lt g' hg'
                clear cB hb5 HRx hbx
                go_wp2_with fail
                go_loopw [4, 10] (fun ov kv wr2 => ∃ k : Nat, kv = .int .i64 k ∧ k ≤ d ∧ Hid (BR wr2 w1.heap.size ov (base ++ T.take k)) ∧ Hid (Below w1.heap.size w1 wr2) ∧ Hid (∀ j u, T[j]? = some u → wr2.cell? ⟨g, j, none⟩ = some (.int .u8 (u.toNat : Nat))) ∧ g < wr2.heap.size ∧ (∀ g', ov.ownBlock = some g' → g' ≠ g)) (fun _ v _ => d - (intOf v).toNat)
                case atStart => exact ⟨0, rfl, Nat.zero_le _, Lib.hid (by rw [List.take_zero, List.append_nil]; exact HR5.out), Lib.hid hb15, Lib.hid hcl, hg2, fun g' hg' => by have := (hlt5 g' hg').2; omega⟩
                case round =>
                  obtain ⟨k, rfl, hkd, HR6, hb6, hcl6, hg6, hne6⟩ := hrel
                  have hb6' := hb6.out
                  by_cases hk : k < d
                  · obtain ⟨u, hu⟩ : ∃ u, T[k]? = some u := ⟨_, List.getElem?_eq_getElem (by omega)⟩
                    have hki : (k : Int) < (d : Int) := by omega
                    have hc6 := hcl6.out k u hu
                    have htk : base ++ T.take (k + 1) = base ++ T.take k ++ [u] := by rw [List.take_add_one, hu, List.append_assoc]; rfl
                    have hbl6 : (base ++ T.take k).length ≤ 140737488355322 := by rw [List.length_append, List.length_take]; omega
                    obtain ⟨bk, hbk⟩ : ∃ bk, base ++ T.take k = bk := ⟨_, rfl⟩
                    rw [hbk] at htk hbl6 HR6
                    clear hcl hb15 HR5 hlt5 hg1 hg2 hu
                    go_wp2_with (at_builtin; refine wpList_bs rfl (.tmp 46) (.tmp 51) rfl (by simp [Act.eval, Act.put]) (HR6.out.below (by exact (Below.refl _ _).alloc (Nat.le_refl _) _)) (by simp; exact Nat.le_trans hb6'.size (Nat.le_add_right _ _)) wr.heap.size 1 1 (by simp [Act.eval, Act.put]) (by exact heap_alloc_new wr _) (ys := [u]) rfl rfl (by decide) (by omega) ?_; intro v7 w7 hR7 hB7 hk7 ho7)
                    have hk67 := (Keeps.alloc (Z := fun k => Value.ownBlock _ = some k) wr _).trans hk7 (fun _ _ e => e)
                    have hcl7 := Lib.hid (fun j u hj => hk67.cell (hcl6.out j u hj) (fun e => hne6 _ e rfl))
                    have HR7 := Lib.hid (show BR w7 w1.heap.size v7 (base ++ T.take (k + 1)) by rw [htk]; exact hR7)
                    have HB7 := Lib.hid ((hb6'.alloc hb6'.size _).trans hB7)
                    have hg7 : g < w7.heap.size := Nat.lt_of_lt_of_le hg6 hk67.size
                    have ho7' : ∀ g', v7.ownBlock = some g' → g' ≠ g := fun g' hg' => (ho7 g' hg').elim (hne6 g') (fun e => by simp at e; omega)
                    clear hR7 hB7 hk7 ho7 hk67 HR6 hb6 hb6' hcl6 hne6 hc6
                    go_wp2_with fail
                    go_roundw
                    case rel => exact ⟨k + 1, by go_num, hk, HR7, HB7, hcl7, hg7, ho7'⟩
                    case measure => simp [intOf]; omega
                  · have hkd2 : k = d := by omega
                    subst hkd2
                    have HRe := HR6.out
                    rw [List.take_of_length_le (by omega), hcat] at HRe
                    have HRe := Lib.hid HRe
                    have hki : ¬ (k : Int) < (k : Int) := by omega
                    clear hcl hb15 HR5 hlt5 hg1 hg2 HR6 hcl6 hne6 hk
                    go_wp2_with fail
                    go_roundw
                    case rel => exact ⟨pre ++ [t], post, by rw [List.length_append]; go_num, hpre2, HRe, hb6'⟩
                    case measure => simp [intOf]; exact hms.out
            · have t1 : decide ((p : Int) < 128) = false := by rw [decide_eq_false_iff_not]; omega
              obtain ⟨base, hbase⟩ : ∃ base, quoteU pre = base := ⟨_, rfl⟩
              have hcat : base ++ T = quoteU (pre ++ [t]) := by
                rw [hq2, hqv, ← hbase, if_neg (by omega)]
              have hbl : base.length + 5 ≤ 140737488355322 := by rw [← hbase]; omega
              have HRx := HR.out
              rw [hbase] at HRx
              have HRx := Lib.hid HRx
              have hbx := hb
              clear hbe hpU h32 hpm hp hpd h128 hqv hT hd HR hb
              go_wp2_with fail
              refine (cB _).mono ?_
              rintro e w5 ⟨g, cc, rfl, hg1, hg2, hcl, hb5⟩
              have HR5 := Lib.hid (HRx.out.below hb5)
              have hb15 := hbx.trans (hb5.mono hbx.size)
              have hlt5 := fun g' hg' => HRx.out.lt g' hg'
              clear cB hb5 HRx hbx
              go_wp2_with fail
              go_loopw [4, 10] (fun ov kv wr2 => ∃ k : Nat, kv = .int .i64 k ∧ k ≤ d ∧ Hid (BR wr2 w1.heap.size ov (base ++ T.take k)) ∧ Hid (Below w1.heap.size w1 wr2) ∧ Hid (∀ j u, T[j]? = some u → wr2.cell? ⟨g, j, none⟩ = some (.int .u8 (u.toNat : Nat))) ∧ g < wr2.heap.size ∧ (∀ g', ov.ownBlock = some g' → g' ≠ g)) (fun _ v _ => d - (intOf v).toNat)
              case atStart => exact ⟨0, rfl, Nat.zero_le _, Lib.hid (by rw [List.take_zero, List.append_nil]; exact HR5.out), Lib.hid hb15, Lib.hid hcl, hg2, fun g' hg' => by have := (hlt5 g' hg').2; omega⟩
              case round =>
                obtain ⟨k, rfl, hkd, HR6, hb6, hcl6, hg6, hne6⟩ := hrel
                have hb6' := hb6.out
                by_cases hk : k < d
                · obtain ⟨u, hu⟩ : ∃ u, T[k]? = some u := ⟨_, List.getElem?_eq_getElem (by omega)⟩
                  have hki : (k : Int) < (d : Int) := by omega
                  have hc6 := hcl6.out k u hu
                  have htk : base ++ T.take (k + 1) = base ++ T.take k ++ [u] := by rw [List.take_add_one, hu, List.append_assoc]; rfl
                  have hbl6 : (base ++ T.take k).length ≤ 140737488355322 := by rw [List.length_append, List.length_take]; omega
                  obtain ⟨bk, hbk⟩ : ∃ bk, base ++ T.take k = bk := ⟨_, rfl⟩
                  rw [hbk] at htk hbl6 HR6
                  clear hcl hb15 HR5 hlt5 hg1 hg2 hu
                  go_wp2_with (at_builtin; refine wpList_bs rfl (.tmp 46) (.tmp 51) rfl (by simp [Act.eval, Act.put]) (HR6.out.below (by exact (Below.refl _ _).alloc (Nat.le_refl _) _)) (by simp; exact Nat.le_trans hb6'.size (Nat.le_add_right _ _)) wr.heap.size 1 1 (by simp [Act.eval, Act.put]) (by exact heap_alloc_new wr _) (ys := [u]) rfl rfl (by decide) (by omega) ?_; intro v7 w7 hR7 hB7 hk7 ho7)
                  have hk67 := (Keeps.alloc (Z := fun k => Value.ownBlock _ = some k) wr _).trans hk7 (fun _ _ e => e)
                  have hcl7 := Lib.hid (fun j u hj => hk67.cell (hcl6.out j u hj) (fun e => hne6 _ e rfl))
                  have HR7 := Lib.hid (show BR w7 w1.heap.size v7 (base ++ T.take (k + 1)) by rw [htk]; exact hR7)
                  have HB7 := Lib.hid ((hb6'.alloc hb6'.size _).trans hB7)
                  have hg7 : g < w7.heap.size := Nat.lt_of_lt_of_le hg6 hk67.size
                  have ho7' : ∀ g', v7.ownBlock = some g' → g' ≠ g := fun g' hg' => (ho7 g' hg').elim (hne6 g') (fun e => by simp at e; omega)
                  clear hR7 hB7 hk7 ho7 hk67 HR6 hb6 hb6' hcl6 hne6 hc6
                  go_wp2_with fail
                  go_roundw
                  case rel => exact ⟨k + 1, by go_num, hk, HR7, HB7, hcl7, hg7, ho7'⟩
                  case measure => simp [intOf]; omega
                · have hkd2 : k = d := by omega
                  subst hkd2
                  have HRe := HR6.out
                  rw [List.take_of_length_le (by omega), hcat] at HRe
                  have HRe := Lib.hid HRe
                  have hki : ¬ (k : Int) < (k : Int) := by omega
                  clear hcl hb15 HR5 hlt5 hg1 hg2 HR6 hcl6 hne6 hk
                  go_wp2_with fail
                  go_roundw
                  case rel => exact ⟨pre ++ [t], post, by rw [List.length_append]; go_num, hpre2, HRe, hb6'⟩
                  case measure => simp [intOf]; exact hms.out
end Go.Proofs.YtekoeobfddfgpaaDoor.C
