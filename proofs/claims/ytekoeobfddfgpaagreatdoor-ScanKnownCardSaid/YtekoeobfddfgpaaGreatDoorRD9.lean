/-
  Of this seat's texts what the claim wants (printed by a program): D9.
-/
import Derived.Test.YtekoeobfddfgpaaGreatDoorRD6
import Derived.Shelf.Strings.SlTrimAscii
set_option linter.unusedVariables false
set_option linter.unusedSimpArgs false
namespace Go.Proofs.YtekoeobfddfgpaaGreatDoor.C
open Go Go.RowKit Go.Shelf Go.Proofs.YtekoeobfddfgpaaGreatDoor.M Go.Proofs.YtekoeobfddfgpaaGreatDoor.Z
def blkR (x : Nat) : Bool := x == 32 || x == 9 || x == 13 || x == 10
theorem spc_nb : ∀ (u r : List UInt8) (sm ow : Bool), (∀ c ∈ u, blk c = false) → u ≠ [] → spc sm ow (u ++ r) = (if ow then [32] else []) ++ u ++ spc true false r := by
  intro u
  induction u with
  | nil => intro r sm ow _ h; exact absurd rfl h
  | cons c u ih =>
    intro r sm ow h _
    have hc := h c (by simp)
    rw [List.cons_append, spc, hc]
    simp only [Bool.false_eq_true, if_false]
    by_cases hu : u = []
    · subst hu; simp
    · rw [ih r true false (fun c hc => h c (List.mem_cons_of_mem _ hc)) hu]
      simp
theorem spc_bl {c : UInt8} (hc : blk c = true) (r : List UInt8) (sm ow : Bool) : spc sm ow (c :: r) = spc sm sm r := by rw [spc, if_pos hc]
theorem blkR_blk (c : UInt8) : blkR c.toNat = blk c := by
  have : ∀ c : UInt8, blkR c.toNat = blk c := u8_all (by decide +kernel)
  exact this c
theorem blk_hi {c : UInt8} (h : 128 ≤ c.toNat) : blk c = false := by
  cases hb : blk c with
  | false => rfl
  | true => have := blk_ascii c hb; omega
theorem unit_bl {t : List UInt8} (h : t ≠ []) (hb : blkR (dc t) = true) : ∃ c r, t = c :: r ∧ dw t = 1 ∧ blk c = true := by
  have f := d_facts h
  have hd : dc t < 128 := by
    unfold blkR at hb
    simp only [Bool.or_eq_true, beq_iff_eq] at hb
    omega
  have h1 : dw t = 1 := by
    rcases Nat.lt_or_ge (dw t) 2 with h2 | h2
    · omega
    · have := (f.2.2.2.2.2.1 h2).2; omega
  cases t with
  | nil => exact absurd rfl h
  | cons c r =>
    refine ⟨c, r, rfl, h1, ?_⟩
    have h2 : dc (c :: r) = c.toNat := by
      rcases f.2.2.2.2.1 h1 with ⟨_, h3⟩ | ⟨_, h3⟩
      · exact h3
      · omega
    rw [h2, blkR_blk] at hb
    exact hb
theorem unit_nb {t : List UInt8} (h : t ≠ []) (hb : blkR (dc t) = false) : ∀ c ∈ t.take (dw t), blk c = false := by
  intro c hc
  obtain ⟨i, hi, he⟩ := List.mem_iff_getElem.1 hc
  rw [List.length_take] at hi
  rw [List.getElem_take] at he
  have hbt : bt t i = c.toNat := by
    unfold bt
    rw [List.getD_eq_getElem?_getD, List.getElem?_eq_getElem (by omega), he]; rfl
  rcases Nat.eq_zero_or_pos i with rfl | hp
  · rcases Nat.lt_or_ge (b0 t) 128 with hlt | hge
    · have h2 := b0_unit h hlt
      rw [h2.2, b0_bt, hbt, blkR_blk] at hb
      exact hb
    · rw [b0_bt, hbt] at hge
      exact blk_hi hge
  · have := unit_bytes h i hp (by omega)
    rw [hbt] at this
    exact blk_hi this
theorem bl_ext {s : ByteArray} {i j : Nat} : bl (s.extract i j) = ((bl s).drop i).take (j - i) := by simp [bl, ByteArray.data_extract, Array.toList_extract, List.extract]
theorem bl_ext_add {s : ByteArray} {a p d : Nat} (h : a ≤ p) : bl (s.extract a (p + d)) = bl (s.extract a p) ++ ((bl s).drop p).take d := by
  rw [bl_ext, bl_ext, show p + d - a = (p - a) + d by omega, List.take_add, List.drop_drop, show a + (p - a) = p by omega]
theorem join_snoc (xs : List (List UInt8)) (y : List UInt8) : Lib.join (xs ++ [y]) [32] = (if xs = [] then [] else Lib.join xs [32] ++ [32]) ++ y := by
  cases xs with
  | nil => simp [Lib.join_one]
  | cons x r =>
    rw [List.cons_append, Lib.join_cons, Lib.join_cons, if_neg (by simp)]
    simp [Lib.joinTail]
def pcs (s : ByteArray) (acc : List (Nat × Nat)) : List (List UInt8) := acc.map fun x => bl (s.extract x.1 x.2)
def JJ (s : ByteArray) (acc : List (Nat × Nat)) (pos : Nat) : Option Nat → List UInt8
  | none => Lib.join (pcs s acc) [32]
  | some a => (if acc = [] then [] else Lib.join (pcs s acc) [32] ++ [32]) ++ bl (s.extract a pos)
theorem JJ_close (s : ByteArray) (acc : List (Nat × Nat)) (a pos q : Nat) : JJ s (acc ++ [(a, pos)]) q none = JJ s acc pos (some a) := by
  unfold JJ pcs
  rw [List.map_append, List.map_cons, List.map_nil, join_snoc]
  simp only [List.map_eq_nil_iff]
def smB (acc : List (Nat × Nat)) (st : Option Nat) : Bool := !acc.isEmpty || st.isSome
def owB (acc : List (Nat × Nat)) (st : Option Nat) : Bool := !acc.isEmpty && st.isNone
theorem spans_spc (s : ByteArray) : ∀ (f pos : Nat) (st : Option Nat) (acc : List (Nat × Nat)), s.size ≤ pos + f → pos ≤ s.size → (∀ a, st = some a → a ≤ pos) →
    Lib.join (pcs s (Lib.closeSpans s (Lib.spansFromP blkR s f pos st acc))) [32] = JJ s acc pos st ++ spc (smB acc st) (owB acc st) ((bl s).drop pos) := by
  intro f
  have hend : ∀ (pos : Nat) (st : Option Nat) (acc : List (Nat × Nat)), pos = s.size → Lib.join (pcs s (Lib.closeSpans s (acc, st))) [32] = JJ s acc pos st ++ spc (smB acc st) (owB acc st) ((bl s).drop pos) := by
    intro pos st acc hp
    rw [List.drop_eq_nil_of_le (by rw [bl_len]; omega)]
    cases st with
    | none => simp [Lib.closeSpans, JJ, spc]
    | some a =>
      have := JJ_close s acc a s.size 0
      rw [hp, ← this]
      simp [Lib.closeSpans, JJ, spc]
  induction f with
  | zero =>
    intro pos st acc h1 h2 _
    exact hend pos st acc (by omega)
  | succ f ih =>
    intro pos st acc h1 h2 h3
    by_cases hlt : pos < s.size
    · have hne := bl_nonempty hlt
      have hd : Utf8.decode s pos = (dc ((bl s).drop pos), dw ((bl s).drop pos)) := (Lib.decodeL_drop s pos).symm
      have hwp := dw_pos hne
      have hwl := dw_len hne
      rw [List.length_drop, bl_len] at hwl
      unfold Lib.spansFromP
      rw [if_pos hlt, hd]
      simp only
      cases hb : blkR (dc ((bl s).drop pos)) with
      | true =>
        obtain ⟨c, r, hcr, hw1, hc⟩ := unit_bl hne hb
        have hr : (bl s).drop (pos + 1) = r := by rw [← List.drop_drop, hcr]; rfl
        rw [hw1]
        simp only [if_true]
        rw [hcr, spc_bl hc]
        cases st with
        | none =>
          have := ih (pos + 1) none acc (by omega) (by omega) (fun a h => by cases h)
          rw [hr] at this
          rw [this]
          simp [JJ, smB, owB]
        | some a =>
          have := ih (pos + 1) none (acc ++ [(a, pos)]) (by omega) (by omega) (fun a h => by cases h)
          rw [hr, JJ_close] at this
          rw [this]
          have e : (acc ++ [(a, pos)]).isEmpty = false := by cases acc <;> rfl
          simp only [smB, owB, e]
          simp
      | false =>
        have hnb := unit_nb hne hb
        have ht : (bl s).drop pos = ((bl s).drop pos).take (dw ((bl s).drop pos)) ++ (bl s).drop (pos + dw ((bl s).drop pos)) := by
          rw [← List.drop_drop, List.take_append_drop]
        have hune : ((bl s).drop pos).take (dw ((bl s).drop pos)) ≠ [] := by
          intro e
          have := congrArg List.length e
          rw [List.length_take, List.length_drop, bl_len, List.length_nil] at this
          omega
        simp only [Bool.false_eq_true, if_false]
        generalize hD : dw ((bl s).drop pos) = d at *
        generalize hU : ((bl s).drop pos).take d = u at *
        rw [ht, spc_nb u _ _ _ hnb hune]
        cases st with
        | none =>
          have := ih (pos + d) (some pos) acc (by omega) (by omega) (fun a h => by injection h with h; omega)
          rw [this]
          have hx : bl (s.extract pos (pos + d)) = u := by rw [bl_ext, Nat.add_sub_cancel_left]; exact hU
          cases acc with
          | nil => simp [JJ, smB, owB, hx, pcs, Lib.join_nil]
          | cons y acc => simp [JJ, smB, owB, hx]
        | some a =>
          have := ih (pos + d) (some a) acc (by omega) (by omega) (fun b h => by injection h with h; have := h3 a rfl; omega)
          rw [this]
          have hx : bl (s.extract a (pos + d)) = bl (s.extract a pos) ++ u := by rw [bl_ext_add (h3 a rfl), hU]
          simp [JJ, smB, owB, hx]
    · have : Lib.spansFromP blkR s (f + 1) pos st acc = (acc, st) := Lib.spansFromP_end _ _ _ _ _ _ hlt
      rw [this]
      exact hend pos st acc (by omega)
theorem fields_spaced (s : ByteArray) : Lib.join ((Lib.goFieldsP blkR s).map (·.data.toList)) [32] = spaced (bl s) := by
  have := spans_spc s s.size 0 none [] (by omega) (by omega) (fun a h => by cases h)
  have e : (Lib.goFieldsP blkR s).map (·.data.toList) = pcs s (Lib.spansOfP blkR s) := by
    unfold Lib.goFieldsP pcs
    rw [List.map_map]; rfl
  rw [e]
  unfold Lib.spansOfP
  rw [this]
  simp [JJ, pcs, Lib.join_nil, smB, owB, spaced]
theorem natI_eq {x k : Nat} (h : x = k) : ((x : Int) == (k : Int)) = true := by simp [h]
theorem natI_ne {x k : Nat} (h : x ≠ k) : ((x : Int) == (k : Int)) = false := by simp only [beq_eq_false_iff_ne, ne_eq]; omega
set_option maxHeartbeats 1000000 in
theorem blank_any (x : Nat) (w : World) : Calls Tryz.prog 49 #[.int .i32 (x : Nat)] w fun e w' => e = .returned (.bool (blkR x)) ∧ w = w' := by
  by_cases h1 : x = 32
  · have t1 : ((x : Int) == 32) = true := natI_eq h1
    have hb : blkR x = true := by subst h1; rfl
    rw [hb]
    clear h1 hb
    go_enter Tryz.func49, Tryz.ntmps49
    go_wp2
    go_ret
    exact ⟨rfl, rfl⟩
  · have t1 : ((x : Int) == 32) = false := natI_ne h1
    by_cases h2 : x = 9
    · have t2 : ((x : Int) == 9) = true := natI_eq h2
      have hb : blkR x = true := by subst h2; rfl
      rw [hb]
      clear h1 h2 hb
      go_enter Tryz.func49, Tryz.ntmps49
      go_wp2
      go_ret
      exact ⟨rfl, rfl⟩
    · have t2 : ((x : Int) == 9) = false := natI_ne h2
      by_cases h3 : x = 13
      · have t3 : ((x : Int) == 13) = true := natI_eq h3
        have hb : blkR x = true := by subst h3; rfl
        rw [hb]
        clear h1 h2 h3 hb
        go_enter Tryz.func49, Tryz.ntmps49
        go_wp2
        go_ret
        exact ⟨rfl, rfl⟩
      · have t3 : ((x : Int) == 13) = false := natI_ne h3
        have hb : blkR x = (x == 10) := by
          unfold blkR
          simp [h1, h2, h3]
        have t4 : ((x : Int) == 10) = (x == 10) := by
          by_cases h : x = 10
          · have := natI_eq h; rw [show ((10 : Nat) : Int) = 10 from rfl] at this; rw [this]; simp [h]
          · have := natI_ne h; rw [show ((10 : Nat) : Int) = 10 from rfl] at this; rw [this]; simp [h]
        rw [hb]
        clear h1 h2 h3 hb
        go_enter Tryz.func49, Tryz.ntmps49
        go_wp2
        go_ret
        exact ⟨rfl, rfl⟩
theorem spc_len : ∀ (l : List UInt8) (sm ow : Bool), (spc sm ow l).length ≤ l.length + (if ow then 1 else 0) := by
  intro l
  induction l with
  | nil => intro sm ow; simp [spc]
  | cons c r ih =>
    intro sm ow
    rw [spc]
    split
    · have := ih sm sm
      simp only [List.length_cons]
      split at this <;> split <;> omega
    · have := ih true false
      simp only [List.length_append, List.length_cons]
      simp at this
      split <;> simp <;> omega
theorem spaced_len (l : List UInt8) : (spaced l).length ≤ l.length := by have := spc_len l false false; simpa [spaced] using this
theorem spans_len (s : ByteArray) : ∀ (f pos : Nat) (st : Option Nat) (acc : List (Nat × Nat)), pos ≤ s.size → acc.length + (if st.isSome then 1 else 0) ≤ pos → (Lib.closeSpans s (Lib.spansFromP blkR s f pos st acc)).length ≤ s.size := by
  intro f
  induction f with
  | zero =>
    intro pos st acc h1 h2
    cases st <;> simp [Lib.spansFromP, Lib.closeSpans] at h2 ⊢ <;> omega
  | succ f ih =>
    intro pos st acc h1 h2
    by_cases hlt : pos < s.size
    · have hne := bl_nonempty hlt
      have hd : Utf8.decode s pos = (dc ((bl s).drop pos), dw ((bl s).drop pos)) := (Lib.decodeL_drop s pos).symm
      have hwp := dw_pos hne
      have hwl := dw_len hne
      rw [List.length_drop, bl_len] at hwl
      unfold Lib.spansFromP
      rw [if_pos hlt, hd]
      simp only
      split
      · cases st with
        | none => exact ih _ none acc (by omega) (by simp at h2 ⊢; omega)
        | some a => exact ih _ none _ (by omega) (by simp at h2 ⊢; omega)
      · cases st with
        | none => exact ih _ (some pos) acc (by omega) (by simp at h2 ⊢; omega)
        | some a => exact ih _ (some a) acc (by omega) (by simp at h2 ⊢; omega)
    · rw [Lib.spansFromP_end _ _ _ _ _ _ hlt]
      cases st <;> simp [Lib.closeSpans] at h2 ⊢ <;> omega
theorem fields_len (s : ByteArray) : (Lib.goFieldsP blkR s).length ≤ s.size := by
  unfold Lib.goFieldsP Lib.spansOfP
  rw [List.length_map]
  exact spans_len s _ 0 none [] (Nat.zero_le _) (by simp)
theorem join_fields (x : ByteArray) (w : World) (hx : x.size ≤ 4294967296) : Calls Tryz.prog 48 #[.string x, .func (.func 49) #[] #[]] w fun e w' => ∃ A n, e = .returned (.slice (some ⟨A, 0, none⟩) n n) ∧ Below w.heap.size w w' ∧
    ∀ W, Keeps none' w' W → Calls Tryz.prog 47 #[.slice (some ⟨A, 0, none⟩) n n, .string ⟨#[32]⟩] W fun e W' => e = .returned (.string (ba (spaced (bl x)))) ∧ Below W.heap.size W W' := by
  refine (Tryz.strings_FieldsFunc_runes 49 #[] (enters_of Tryz.func49 (by kernel_rfl) rfl) blkR x w hx ?_).mono ?_
  · intro W y _ _
    exact (blank_any y W).mono fun e w' ⟨h1, h2⟩ => ⟨h1, 0, h2.symm⟩
  · rintro e w' ⟨A, rfl, hA, ho, hb⟩
    refine ⟨A, _, rfl, hb, fun W hk => ?_⟩
    have ho2 : W.ownsRow w.heap.size 9 1 (.slice (some ⟨A, 0, none⟩) (Lib.goFieldsP blkR x).length (Lib.goFieldsP blkR x).length) (Lib.goFieldsP blkR x).length ((Lib.goFieldsP blkR x).map Value.string) := owns_obj ho hk (fun _ _ h => h)
    have hj := fields_spaced x
    have hn := fields_len x
    have hl := spaced_len (bl x)
    rw [bl_len] at hl
    generalize Lib.goFieldsP blkR x = F at ho2 hj hn ⊢
    by_cases h0 : F = []
    · subst h0
      refine (Tryz.strings_Join_none (some ⟨A, 0, none⟩) 0 ⟨#[32]⟩ W).mono ?_
      rintro e W' ⟨rfl, rfl⟩
      rw [← hj]
      exact ⟨rfl, Below.refl _ _⟩
    · have hcl : ∀ (j : Nat) y, F[j]? = some y → W.cell? ⟨A, 0 + j, none⟩ = some (.string y) := fun j y hy => by
        have := ho2.cells (g := A) rfl j (.string y) (by rw [List.getElem?_map, hy]; rfl)
        cases j <;> simpa [Addr.add] using this
      have hp : 0 < F.length := List.length_pos_iff.2 h0
      refine (Tryz.strings_Join A 0 F.length F ⟨#[32]⟩ W hcl ?_ (by omega) (Nat.le_refl _) ?_).mono ?_
      · exact World.block_lt_of_cell? W _ (hcl 0 F[0] (List.getElem?_eq_getElem hp))
      · show (Lib.join (F.map (·.data.toList)) [32]).length ≤ _
        rw [hj]; omega
      · rintro e W' ⟨rfl, hb'⟩
        refine ⟨?_, hb'⟩
        rw [← hj]; rfl
set_option maxHeartbeats 1000000 in
theorem trim_any (s : ByteArray) (w : World) : Calls Tryz.prog 43 #[.string s, .string ⟨#[32, 9, 13, 10]⟩] w fun e w' => e = .returned (.string (ba ((bl s).dropWhile blk))) ∧ Below w.heap.size w w' := by
  have := Any.strings_TrimLeft_laid Tryz.lays161 (by kernel_rfl) s ⟨#[32, 9, 13, 10]⟩ w (by decide) (ascii_of_all (by decide))
  refine this.mono ?_
  rintro e w' ⟨rfl, hb⟩
  refine ⟨?_, hb⟩
  have : Lib.trimLeftS s.data.toList [32, 9, 13, 10] = (bl s).dropWhile blk := by
    unfold Lib.trimLeftS
    congr 1
    funext c
    have : ∀ c : UInt8, [32, 9, 13, 10].contains c = blk c := u8_all (by decide +kernel)
    exact this c
  show Ending.returned (Value.string ⟨(Lib.trimLeftS s.data.toList [32, 9, 13, 10]).toArray⟩) = _
  rw [this]; rfl
theorem ltW_of {r : List UInt8} {k : Nat} (h1 : 1 ≤ k) (h3 : k ≤ 3) (ha : ∀ j, 1 ≤ j → j < k → r[j - 1]? = some 60) (hs : k = 3 ∨ r[k - 1]? ≠ some 60) : ltW r = k := by
  match k, h1, h3 with
  | 1, _, _ =>
    have h : r[0]? ≠ some 60 := hs.resolve_left (by decide)
    unfold ltW
    split
    · exact absurd rfl h
    · exact absurd rfl h
    · rfl
  | 2, _, _ =>
    have h : r[1]? ≠ some 60 := hs.resolve_left (by decide)
    have g := ha 1 (by decide) (by decide)
    cases r with
    | nil => cases g
    | cons c r =>
      have hc : c = 60 := by injection g
      subst hc
      cases r with
      | nil => rfl
      | cons d r =>
        have : d ≠ 60 := fun e => h (by rw [e]; rfl)
        unfold ltW
        split
        · rename_i e; injection e with _ e; injection e with e _; exact absurd e this
        · rfl
        · rename_i h1 h2; exact absurd rfl (h2 _)
  | 3, _, _ =>
    have g := ha 1 (by decide) (by decide)
    have g2 := ha 2 (by decide) (by decide)
    match r, g, g2 with
    | c :: d :: r, g, g2 =>
      injection g with g
      injection g2 with g2
      have g3 : d = 60 := g2
      have g4 : c = 60 := g
      subst g3
      subst g4
      rfl
    | [c], _, g2 => cases g2
    | [], g, _ => cases g
theorem signW_at {c : UInt8} {r : List UInt8} {k : Nat} (hk : (if c = 60 then ltW r else 1) = k) : signW (c :: r) = k + (if (c = 60 ∨ c = 61) ∧ r[k - 1]? = some 42 then 1 else 0) := by
  simp only [signW, hk]
theorem get_ne {s : ByteArray} {n : Nat} {l : List UInt8} {k : UInt8} (h : bl s = l) (hn : n < s.size) (hc : l[n]? ≠ some k) : (((s[n]'hn).toNat : Int) == (k.toNat : Int)) = false := by
  refine u8_neI (fun e => hc ?_)
  subst h
  rw [List.getElem?_eq_getElem (by rw [bl_len]; exact hn), bl_get hn, e]
set_option maxHeartbeats 2000000 in
set_option maxRecDepth 100000 in
theorem width_any (s : ByteArray) (c : UInt8) (r : List UInt8) (hr : bl s = c :: r) (w : World) (hsz : s.size ≤ 140737488351232) :
    Calls Tryz.prog 50 #[.string s] w fun e w' => e = .returned (.int .i64 (signW (c :: r) : Nat)) ∧ w = w' := by
  have hl : r.length + 1 = s.size := by rw [← bl_len, hr]; rfl
  obtain ⟨h0, h0e⟩ := get_bl (n := 0) (c := c) hr rfl
  have i0 : (0 : Int) < (s.size : Int) := by omega
  have hidx : ∀ k, 1 ≤ k → (bl s)[k]? = r[k - 1]? := fun k hk => by
    rw [hr, show k = (k - 1) + 1 by omega, List.getElem?_cons_succ]; rfl
  have Hidx := Lib.hid hidx
  have Hr := Lib.hid hr
  obtain ⟨A, hA⟩ : ∃ A, signW (c :: r) = A := ⟨_, rfl⟩
  rw [hA]
  have HA := Lib.hid hA
  -- the star behind the sign, at k
  by_cases h60 : c = 60
  · have t0 : (((s[0]'h0).toNat : Int) == 60) = true := by rw [h0e]; exact u8_eqI (k := 60) h60
    have Hat : Hid (∀ k, 1 ≤ k → k ≤ 3 → (∀ j, 1 ≤ j → j < k → r[j - 1]? = some 60) → (k = 3 ∨ r[k - 1]? ≠ some 60) → A = k + (if r[k - 1]? = some 42 then 1 else 0)) := by
      refine Lib.hid (fun k h1 h3 ha hs => ?_)
      rw [← hA, signW_at (k := k) (by rw [if_pos h60]; exact ltW_of h1 h3 ha hs)]
      congr 1
      by_cases h : r[k - 1]? = some 42
      · rw [if_pos h, if_pos ⟨.inl h60, h⟩]
      · rw [if_neg h, if_neg (fun e => h e.2)]
    clear hA hidx hr h0e
    go_enter Tryz.func50, Tryz.ntmps50
    go_wp2
    go_loop [3] (fun n => ∃ k : Nat, n = .int .i64 k ∧ 1 ≤ k ∧ k ≤ 3 ∧ k ≤ s.size ∧ Hid (∀ j, 1 ≤ j → j < k → r[j - 1]? = some 60)) (fun n => 3 - (intOf n).toNat)
    case atStart => exact ⟨1, rfl, Nat.le_refl _, by omega, by omega, Lib.hid (fun j h1 h2 => by omega)⟩
    case round =>
      obtain ⟨k, rfl, h1, h3, hks, Ha⟩ := hrel
      by_cases hk3 : k < 3
      · by_cases hks2 : k < s.size
        · by_cases hn : r[k - 1]? = some 60
          · obtain ⟨g1, g2⟩ := get_bl (s := s) (n := k) (c := 60) rfl (by rw [Hidx.out k h1]; exact hn)
            have t1 : (((s[k]'hks2).toNat : Int) == 60) = true := by rw [g2]; rfl
            have Ha2 : Hid (∀ j, 1 ≤ j → j < k + 1 → r[j - 1]? = some 60) := Lib.hid (fun j j1 j2 => by
              rcases Nat.lt_or_ge j k with h | h
              · exact Ha.out j j1 h
              · have : j = k := by omega
                subst this; exact hn)
            clear g2 hn Ha
            go_wp2
            go_round
            case rel => exact ⟨k + 1, by go_num, by omega, by omega, by omega, Ha2⟩
            case measure => simp [intOf]; omega
          · have t1 : (((s[k]'hks2).toNat : Int) == 60) = false := get_ne (k := 60) rfl hks2 (by rw [Hidx.out k h1]; exact hn)
            have hA2 := Hat.out k h1 h3 Ha.out (.inr hn)
            clear hn Ha
            by_cases h42 : r[k - 1]? = some 42
            · obtain ⟨g1, g2⟩ := get_bl (s := s) (n := k) (c := 42) rfl (by rw [Hidx.out k h1]; exact h42)
              have t2 : (((s[k]'g1).toNat : Int) == 42) = true := by rw [g2]; rfl
              have i2 : ((k : Nat) : Int) < (s.size : Int) := by omega
              rw [if_pos h42] at hA2
              have HA2 := Lib.hid hA2
              clear hA2 g2 h42
              go_wp2
              all_goals (go_ret; rw [HA2.out]; exact ⟨rfl, rfl⟩)
            · rw [if_neg h42] at hA2
              have HA2 := Lib.hid hA2
              by_cases g1 : k < s.size
              · have t2 : (((s[k]'g1).toNat : Int) == 42) = false := get_ne (k := 42) rfl g1 (by rw [Hidx.out k h1]; exact h42)
                have i2 : ((k : Nat) : Int) < (s.size : Int) := by omega
                clear hA2 h42
                go_wp2
                all_goals (go_ret; rw [HA2.out]; exact ⟨rfl, rfl⟩)
              · have i2 : (s.size : Int) ≤ ((k : Nat) : Int) := by omega
                clear hA2 h42
                go_wp2
                all_goals (go_ret; rw [HA2.out]; exact ⟨rfl, rfl⟩)
        · have hn : r[k - 1]? ≠ some 60 := by
            intro e
            have := (List.getElem?_eq_some_iff.1 e).1
            omega
          have hA2 := Hat.out k h1 h3 Ha.out (.inr hn)
          clear hn Ha
          by_cases h42 : r[k - 1]? = some 42
          · obtain ⟨g1, g2⟩ := get_bl (s := s) (n := k) (c := 42) rfl (by rw [Hidx.out k h1]; exact h42)
            have t2 : (((s[k]'g1).toNat : Int) == 42) = true := by rw [g2]; rfl
            have i2 : ((k : Nat) : Int) < (s.size : Int) := by omega
            rw [if_pos h42] at hA2
            have HA2 := Lib.hid hA2
            clear hA2 g2 h42
            go_wp2
            all_goals (go_ret; rw [HA2.out]; exact ⟨rfl, rfl⟩)
          · rw [if_neg h42] at hA2
            have HA2 := Lib.hid hA2
            by_cases g1 : k < s.size
            · have t2 : (((s[k]'g1).toNat : Int) == 42) = false := get_ne (k := 42) rfl g1 (by rw [Hidx.out k h1]; exact h42)
              have i2 : ((k : Nat) : Int) < (s.size : Int) := by omega
              clear hA2 h42
              go_wp2
              all_goals (go_ret; rw [HA2.out]; exact ⟨rfl, rfl⟩)
            · have i2 : (s.size : Int) ≤ ((k : Nat) : Int) := by omega
              clear hA2 h42
              go_wp2
              all_goals (go_ret; rw [HA2.out]; exact ⟨rfl, rfl⟩)
      · have hk : k = 3 := by omega
        have hA2 := Hat.out k h1 h3 Ha.out (.inl hk)
        clear Ha hk
        by_cases h42 : r[k - 1]? = some 42
        · obtain ⟨g1, g2⟩ := get_bl (s := s) (n := k) (c := 42) rfl (by rw [Hidx.out k h1]; exact h42)
          have t2 : (((s[k]'g1).toNat : Int) == 42) = true := by rw [g2]; rfl
          have i2 : ((k : Nat) : Int) < (s.size : Int) := by omega
          rw [if_pos h42] at hA2
          have HA2 := Lib.hid hA2
          clear hA2 g2 h42
          go_wp2
          all_goals (go_ret; rw [HA2.out]; exact ⟨rfl, rfl⟩)
        · rw [if_neg h42] at hA2
          have HA2 := Lib.hid hA2
          by_cases g1 : k < s.size
          · have t2 : (((s[k]'g1).toNat : Int) == 42) = false := get_ne (k := 42) rfl g1 (by rw [Hidx.out k h1]; exact h42)
            have i2 : ((k : Nat) : Int) < (s.size : Int) := by omega
            clear hA2 h42
            go_wp2
            all_goals (go_ret; rw [HA2.out]; exact ⟨rfl, rfl⟩)
          · have i2 : (s.size : Int) ≤ ((k : Nat) : Int) := by omega
            clear hA2 h42
            go_wp2
            all_goals (go_ret; rw [HA2.out]; exact ⟨rfl, rfl⟩)
  · have t0 : (((s[0]'h0).toNat : Int) == 60) = false := by rw [h0e]; exact u8_neI (k := 60) h60
    have h1 : 1 ≤ 1 := Nat.le_refl _
    by_cases h61 : c = 61
    · have t3 : (((s[0]'h0).toNat : Int) == 61) = true := by rw [h0e]; exact u8_eqI (k := 61) h61
      have hA2 : A = 1 + (if r[1 - 1]? = some 42 then 1 else 0) := by
        rw [← hA, signW_at (k := 1) (by rw [if_neg h60])]
        congr 1
        by_cases h : r[1 - 1]? = some 42
        · rw [if_pos h, if_pos ⟨.inr h61, h⟩]
        · rw [if_neg h, if_neg (fun e => h e.2)]
      clear hA hidx hr h0e h60 h61
      go_enter Tryz.func50, Tryz.ntmps50
      go_wp2
      go_loop [3] (fun n => n = .int .i64 1) (fun n => 3 - (intOf n).toNat)
      case atStart => rfl
      case round =>
        subst hrel
        by_cases h42 : r[1 - 1]? = some 42
        · obtain ⟨g1, g2⟩ := get_bl (s := s) (n := 1) (c := 42) rfl (by rw [Hidx.out 1 h1]; exact h42)
          have t2 : (((s[1]'g1).toNat : Int) == 42) = true := by rw [g2]; rfl
          have i2 : (1 : Int) < (s.size : Int) := by omega
          rw [if_pos h42] at hA2
          have HA2 := Lib.hid hA2
          clear hA2 g2 h42
          go_wp2
          all_goals (go_ret; rw [HA2.out]; exact ⟨rfl, rfl⟩)
        · rw [if_neg h42] at hA2
          have HA2 := Lib.hid hA2
          by_cases g1 : 1 < s.size
          · have t2 : (((s[1]'g1).toNat : Int) == 42) = false := get_ne (k := 42) rfl g1 (by rw [Hidx.out 1 h1]; exact h42)
            have i2 : (1 : Int) < (s.size : Int) := by omega
            clear hA2 h42
            go_wp2
            all_goals (go_ret; rw [HA2.out]; exact ⟨rfl, rfl⟩)
          · have i2 : (s.size : Int) ≤ (1 : Int) := by omega
            clear hA2 h42
            go_wp2
            all_goals (go_ret; rw [HA2.out]; exact ⟨rfl, rfl⟩)
    · have t3 : (((s[0]'h0).toNat : Int) == 61) = false := by rw [h0e]; exact u8_neI (k := 61) h61
      have hA2 : A = 1 := by
        rw [← hA, signW_at (k := 1) (by rw [if_neg h60]), if_neg (fun e => e.1.elim h60 h61)]
      have HA2 := Lib.hid hA2
      clear hA hidx hr h0e h60 h61 hA2
      go_enter Tryz.func50, Tryz.ntmps50
      go_wp2
      go_loop [3] (fun n => n = .int .i64 1) (fun n => 3 - (intOf n).toNat)
      case atStart => rfl
      case round =>
        subst hrel
        go_wp2
        all_goals (go_ret; rw [HA2.out]; exact ⟨rfl, rfl⟩)
end Go.Proofs.YtekoeobfddfgpaaGreatDoor.C
