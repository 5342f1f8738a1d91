/-
  points.Text: the text of numbers, or the first that is no point.
-/
import Derived.Test.YtbkimhbpcmbflaaDoorA2
import Derived.Lib.AppendStr
import Derived.Laws.BytesArg
set_option linter.unusedVariables false
set_option linter.unusedSimpArgs false
namespace Go.Proofs.YtbkimhbpcmbflaaDoor.C
open Go Go.RowKit Go.Proofs.YtbkimhbpcmbflaaDoor.M

/-- a row of whole numbers that is read: below block B -/
def Rd (w : World) (B : Nat) (k : IntKind) (A : Option Addr) (xs : List Int) : Prop :=
  xs = [] ∨ ∃ x : Addr, A = some x ∧ x.block < B ∧ ∀ j u, xs[j]? = some u → w.cell? (x.add j) = some (.int k u)
theorem add_block (a : Addr) (n : Nat) : (a.add n).block = a.block := by unfold Addr.add; split <;> rfl
theorem Rd.below {w w' : World} {B B' : Nat} {k : IntKind} {A : Option Addr} {xs : List Int} (h : Rd w B k A xs) (hb : Below B' w w') (hB : B ≤ B') : Rd w' B k A xs := by
  rcases h with h | ⟨x, e, hlt, hc⟩
  · exact .inl h
  · exact .inr ⟨x, e, hlt, fun j u hj => (hb.cell (p := x.add j) (by rw [add_block]; omega)).trans (hc j u hj)⟩
theorem Rd.more {w : World} {B B' : Nat} {k : IntKind} {A : Option Addr} {xs : List Int} (h : Rd w B k A xs) (hB : B ≤ B') : Rd w B' k A xs := by
  rcases h with h | ⟨x, e, hlt, hc⟩
  · exact .inl h
  · exact .inr ⟨x, e, by omega, hc⟩
theorem Row.reads {w : World} {base : Nat} {e : TypeId} {k : IntKind} {v : Value} {xs : List Int} (h : Row w base e k v xs) : ∃ A c, v = .slice A xs.length c ∧ xs.length ≤ c ∧ Rd w w.heap.size k A xs := by
  have h0 := h
  rcases h.2 with ⟨rfl, hn⟩ | ⟨g, cap, cur, rfl, hg, hh, hnc, hm, hcs, ht⟩
  · exact ⟨none, 0, by rw [hn], by omega, .inl (List.eq_nil_of_length_eq_zero hn)⟩
  · exact ⟨_, cap, rfl, hnc, .inr ⟨⟨g, 0, none⟩, rfl, (Array.getElem?_eq_some_iff.1 hh).1, fun j u hj => World.ownsRow.cells h0 (g := g) rfl j (.int k u) (by rw [List.getElem?_map, hj]; rfl)⟩⟩

/-- bytes as cells -/
def bcells (bs : List UInt8) : List Value := bs.map fun b => Value.int .u8 (b.toNat : Int)
theorem bcells_append (a b : List UInt8) : bcells (a ++ b) = bcells a ++ bcells b := by simp [bcells]
theorem strCells_eq (s : ByteArray) : Lib.strCells s = bcells (bl s) := rfl
theorem conv_row {P : Program} {w : World} {base : Nat} {src e : TypeId} {v : Value} {bs : List UInt8} (hs : P.underlying src = some (.slice e)) (he : P.underlying e = some (.int .u8))
    (h : w.ownsRow base e 1 v bs.length (bcells bs)) : ∀ dst, P.underlying dst = some .string → (convert src dst v).run P w = .ok (.string ⟨bs.toArray⟩) w := by
  rcases h.2 with ⟨rfl, hn⟩ | ⟨g, cap, cur, rfl, hg, hh, hnc, hm, hcs, ht⟩
  · have : bs = [] := List.eq_nil_of_length_eq_zero hn
    subst this
    exact run_convert_bytes_nil w src e hs he 0 0
  · have hc : ∀ i, i < bs.length → w.cell? ⟨g, 0 + i, none⟩ = some (.int .u8 ((bs.map fun b => (b.toNat : Int)).getD i 0)) := fun i hi => by
      have := World.ownsRow.cells h (g := g) rfl i (.int .u8 (bs[i].toNat : Int)) (by simp [bcells, hi])
      have e : (⟨g, 0, none⟩ : Addr).add i = ⟨g, 0 + i, none⟩ := by unfold Addr.add; split <;> simp_all
      rw [e] at this
      rw [this]
      simp [List.getD, hi]
    have := run_convert_bytes_arg (P := P) w src e hs he g 0 bs.length cap (bs.map fun b => (b.toNat : Int)) (by simp) hc
    have e2 : strOfNums (bs.map fun b => (b.toNat : Int)) = ⟨bs.toArray⟩ := by
      unfold strOfNums
      rw [List.map_map]
      congr 2
      conv => rhs; rw [← List.map_id bs]
      exact List.map_congr_left fun b _ => by simp
    rw [e2] at this
    exact this

/-! ### points as numbers -/
def isPt (x : Int) : Bool := Lib.validRune x || (decide (1114240 ≤ x) && decide (x ≤ 1114367))
def pb (x : Int) : List UInt8 := if Lib.validRune x = true then (Utf8.encode x).data.toList else [UInt8.ofNat (x - 1114112).toNat]
def textP (xs : List Int) : List UInt8 := xs.flatMap pb
theorem pb_len (x : Int) : (pb x).length ≤ 4 := by
  unfold pb
  split
  · unfold Utf8.encode
    simp only []
    repeat' split
    all_goals simp
  · simp
theorem textP_len (xs : List Int) : (textP xs).length ≤ 4 * xs.length := by
  induction xs with
  | nil => simp [textP]
  | cons x xs ih =>
    have := pb_len x
    simp only [textP, List.flatMap_cons, List.length_append, List.length_cons] at ih ⊢
    omega
theorem Tryd.infoByte : (Tryd.prog.info? 5).map (fun i => (i.zero, i.size, i.bytes)) = some (some (.int .u8 0), 1, 1) := by kernel_rfl

set_option maxHeartbeats 4000000 in
set_option maxRecDepth 1000000 in
theorem text_some (w : World) (ad : Addr) (n cap : Nat) (xs : List Int) (hn : xs.length = n) (hn40 : n ≤ 35184372087808) (hb : ad.block < w.heap.size)
    (hx : ∀ x ∈ xs, -2147483648 ≤ x ∧ x ≤ 2147483647)
    (hc : ∀ j u, xs[j]? = some u → w.cell? (ad.add j) = some (.int .i32 u)) :
    Calls Tryd.prog 31 #[.slice (some ad) n cap] w fun e w' =>
      ((∀ x ∈ xs, isPt x = true) ∧ e = .returned (.tuple #[.string ⟨(textP xs).toArray⟩, .nilIface]) ∨
       ∃ k x, xs[k]? = some x ∧ isPt x = false ∧ (∀ x ∈ xs.take k, isPt x = true) ∧ e = .returned (.tuple #[.string ⟨#[]⟩, .iface 81 (.agg #[.int .i64 8, .int .i64 0, .int .i64 (k : Nat)])])) ∧ Below w.heap.size w w' := by
  obtain ⟨i0, hi, hz0, hz1, hz2⟩ := info_parts Tryd.infoByte
  have Hn := Lib.hid hn
  clear hn
  go_enter Tryd.func31, Tryd.ntmps31
  go_wp2
  go_loopw [4, 9] (fun bv kv wr => ∃ k : Nat, kv = .int .i64 k ∧ k ≤ n ∧ Hid (∀ x ∈ xs.take k, isPt x = true) ∧ Hid (wr.ownsRow w.heap.size 5 1 bv (textP (xs.take k)).length (bcells (textP (xs.take k)))) ∧ Below w.heap.size w wr)
    (fun _ kv _ => n - (intOf kv).toNat)
  case atStart =>
    exact ⟨0, rfl, Nat.zero_le _, by simp [Hid], World.ownsRow_nil _ _ _ _, Below.refl _ _⟩
  case round =>
    obtain ⟨k, rfl, hk, hall, hown, hbw⟩ := hrel
    by_cases hlt : k < n
    · have hkx : k < xs.length := by have := Hn.out; omega
      obtain ⟨x, hxk⟩ : ∃ x, xs[k]? = some x := ⟨_, List.getElem?_eq_getElem hkx⟩
      have hcell : wr.cell? (ad.add k) = some (.int .i32 x) := (hbw.cell (p := ad.add k) (by rw [add_block]; exact hb)).trans (hc k x hxk)
      have hmem : x ∈ xs := List.mem_of_getElem? hxk
      obtain ⟨hx1, hx2⟩ := hx x hmem
      have htk : xs.take (k + 1) = xs.take k ++ [x] := by rw [List.take_add_one, hxk]; rfl
      have cV := fun W => (Tryd.utf8_ValidRune x W).mono (R' := fun e w' => e = .returned (.bool (Lib.validRune x)) ∧ W = w') (fun _ _ h => ⟨h.1, h.2.symm⟩)
      have Htk := Lib.hid htk
      have Hxk := Lib.hid hxk
      clear htk hxk hx hc
      have hltI : (k : Int) < n := by omega
      cases hv : Lib.validRune x with
      | true =>
        rw [hv] at cV
        have Hv := Lib.hid hv
        clear hv
        have hlen := textP_len (xs.take k)
        have hlen2 : (xs.take k).length ≤ k := List.length_take_le _ _
        have hel : (Utf8.encode x).size ≤ 4 := by
          have := pb_len x
          rw [pb, if_pos Hv.out] at this
          have h2 := Lib.size_eq (Utf8.encode x)
          omega
        have hbs := hbw.size
        go_wp2_with (first | (go_at_call 81; refine (cV _).mono ?_; rintro e w' ⟨rfl, rfl⟩) | (at_builtin; refine Lib.wpList_append_own_string _ rfl _ _ 72 9 rfl w.heap.size 5 i0 Tryd.underlying72 Tryd.underlying9 hi hz0 hz1 hz2 _ _ _ rfl hown.out (Utf8.encode x) rfl (by unfold maxLen; omega) (by omega) (by omega) ?_; intro v' w1 hown1 hgrow1 _))
        go_roundw
        case rel =>
          have e1 : textP (xs.take (k + 1)) = textP (xs.take k) ++ bl (Utf8.encode x) := by
            rw [Htk.out]; simp [textP, pb, Hv.out, bl]
          refine ⟨k + 1, by go_num, by omega, ?_, ?_, hbw.grown hgrow1 hbs (fun g hg => (hown.out.lt g hg).1)⟩
          · show ∀ y ∈ xs.take (k + 1), _
            rw [Htk.out]
            intro y hy
            rcases List.mem_append.1 hy with hy | hy
            · exact hall.out y hy
            · rw [List.mem_singleton.1 hy]; simp [isPt, Hv.out]
          · show w1.ownsRow _ _ _ _ _ _
            rw [e1, List.length_append, bcells_append, bl_len]
            exact hown1
        case measure => simp [intOf]; omega
      | false =>
        by_cases hr : 1114240 ≤ x ∧ x ≤ 1114367
        · obtain ⟨hr1, hr2⟩ := hr
          rw [hv] at cV
          have Hv := Lib.hid hv
          clear hv
          have hlen := textP_len (xs.take k)
          have hlen2 : (xs.take k).length ≤ k := List.length_take_le _ _
          have hbs := hbw.size
          go_wp2_with (first | (go_at_call 81; refine (cV _).mono ?_; rintro e w' ⟨rfl, rfl⟩) | (at_builtin; refine wpList_append_own _ rfl _ _ 72 rfl w.heap.size 5 i0 (.int .u8 0) 1 1 Tryd.underlying72 hi hz0 hz1 hz2 rfl (by decide) _ _ _ rfl (hown.out.alloc _) ⟨wr.heap.size, 0, none⟩ 1 1 [_] rfl rfl (cell_one_new _ _ _) (by intro u hu; rw [List.mem_singleton.1 hu]; rfl) (by unfold maxLen; omega) (by omega) (by simp; omega) ?_; intro v' w1 hown1 hgrow1 _))
          go_roundw
          case rel =>
            have e1 : textP (xs.take (k + 1)) = textP (xs.take k) ++ [UInt8.ofNat (x - 1114112).toNat] := by
              rw [Htk.out]; simp [textP, pb, Hv.out]
            refine ⟨k + 1, by go_num, by omega, ?_, ?_, (hbw.alloc hbs _).grown hgrow1 (by simp; omega) (fun g hg => (hown.out.lt g hg).1)⟩
            · show ∀ y ∈ xs.take (k + 1), _
              rw [Htk.out]
              intro y hy
              rcases List.mem_append.1 hy with hy | hy
              · exact hall.out y hy
              · rw [List.mem_singleton.1 hy]; simp [isPt, Hv.out, hr1, hr2]
            · show w1.ownsRow _ _ _ _ _ _
              rw [e1, List.length_append, bcells_append]
              have e3 : ((UInt8.ofNat (x - 1114112).toNat).toNat : Int) = x - 1114112 := by
                rw [ofNat_toNat (by omega)]; omega
              simp only [bcells, List.map_cons, List.map_nil, e3]
              exact hown1
          case measure => simp [intOf]; omega
        · rw [hv] at cV
          have hnp : isPt x = false := by
            simp [isPt, hv]; omega
          have Hv := Lib.hid hv
          have Hnp := Lib.hid hnp
          clear hv hnp
          by_cases hr1 : 1114240 ≤ x
          · have hr2 : 1114367 < x := by omega
            clear hr
            go_wp2_with (first | (go_at_call 81; refine (cV _).mono ?_; rintro e w' ⟨rfl, rfl⟩))
            go_ret2
            exact ⟨.inr ⟨k, x, Hxk.out, Hnp.out, hall.out, rfl⟩, hbw⟩
          · have hr2 : x < 1114240 := by omega
            clear hr hr1
            go_wp2_with (first | (go_at_call 81; refine (cV _).mono ?_; rintro e w' ⟨rfl, rfl⟩))
            go_ret2
            exact ⟨.inr ⟨k, x, Hxk.out, Hnp.out, hall.out, rfl⟩, hbw⟩
    · obtain rfl : k = n := by omega
      have hfull : xs.take k = xs := List.take_of_length_le (by have := Hn.out; omega)
      have hcv := conv_row (P := Tryd.prog) (src := 72) Tryd.underlying72 Tryd.underlying5 hown.out 9 Tryd.underlying9
      rw [hfull] at hcv
      have Hfull := Lib.hid hfull
      clear hfull hx hc
      go_wp2
      go_ret2
      refine ⟨.inl ⟨?_, rfl⟩, hbw⟩
      have := hall.out
      rw [Hfull.out] at this
      exact this

set_option maxHeartbeats 1000000 in
theorem text_none (w : World) (A : Option Addr) (cap : Nat) :
    Calls Tryd.prog 31 #[.slice A 0 cap] w fun e w' => e = .returned (.tuple #[.string ⟨#[]⟩, .nilIface]) ∧ Below w.heap.size w w' := by
  have hcv := conv_row (P := Tryd.prog) (w := w) (base := 0) (bs := []) (v := .slice none 0 0) (src := 72) Tryd.underlying72 Tryd.underlying5 (World.ownsRow_nil _ _ _ _) 9 Tryd.underlying9
  go_enter Tryd.func31, Tryd.ntmps31
  go_wp2
  refine wp_loop_rounds 1 ?_
  rw [rounds_succ]
  go_wp2
  go_ret2
  exact ⟨rfl, Below.refl _ _⟩

/-- what points.Text answers: the text; or the place of the first that is no point -/
theorem text_any (w : World) (A : Option Addr) (cap : Nat) (xs : List Int) (hn40 : xs.length ≤ 35184372087808) (hx : ∀ x ∈ xs, -2147483648 ≤ x ∧ x ≤ 2147483647) (hR : Rd w w.heap.size .i32 A xs) :
    Calls Tryd.prog 31 #[.slice A xs.length cap] w fun e w' =>
      ((∀ x ∈ xs, isPt x = true) ∧ e = .returned (.tuple #[.string ⟨(textP xs).toArray⟩, .nilIface]) ∨
       ∃ k x, xs[k]? = some x ∧ isPt x = false ∧ (∀ x ∈ xs.take k, isPt x = true) ∧ e = .returned (.tuple #[.string ⟨#[]⟩, .iface 81 (.agg #[.int .i64 8, .int .i64 0, .int .i64 (k : Nat)])])) ∧ Below w.heap.size w w' := by
  rcases hR with rfl | ⟨x, rfl, hb, hc⟩
  · refine (text_none w A cap).mono fun e w' h => ⟨.inl ⟨by simp, ?_⟩, h.2⟩
    rw [h.1]; rfl
  · exact text_some w x xs.length cap xs rfl hn40 hb hx hc
end Go.Proofs.YtbkimhbpcmbflaaDoor.C
