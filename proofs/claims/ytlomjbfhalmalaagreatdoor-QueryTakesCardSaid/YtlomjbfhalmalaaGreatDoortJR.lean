/-
  Of this seat's texts what the claim wants (printed by a program): JR.
-/
import Derived.Test.YtlomjbfhalmalaaGreatDoortJH
set_option linter.unusedVariables false
set_option linter.unusedSimpArgs false
namespace Go.Proofs.YtlomjbfhalmalaaGreatDoor.C
open Go Go.RowKit Go.Shelf Go.Proofs.YtlomjbfhalmalaaGreatDoor.M Go.Proofs.YtlomjbfhalmalaaGreatDoor.Z
structure Pd (w : World) (B b : Nat) (p v : Value) (bs : List UInt8) : Prop where
  le : B ≤ b
  blk : w.heap[b]? = some (.cells #[p, v] 69 (0, 0))
  p : p = .pointer none ∨ p = .pointer (some ⟨b, 0, none⟩)
  row : w.ownsRow B 5 1 v bs.length (bcells bs)
  ne : v.ownBlock ≠ some b
theorem Pd.keeps {w w' : World} {B b : Nat} {p v : Value} {bs : List UInt8} {Y : Nat → Prop} (h : Pd w B b p v bs) (hk : Keeps Y w w') (hb : ¬ Y b) (hv : ∀ g, v.ownBlock = some g → ¬ Y g) : Pd w' B b p v bs :=
  ⟨h.le, hk.obj h.blk hb, h.p, owns_obj h.row hk hv, h.ne⟩
theorem infoB : (Tryz.prog.info? 67).map (·.size) = some 2 := by kernel_rfl
theorem liesP : liesAt Tryz.prog Tryz.prog.depth 69 (2 / Tryz.prog.cellsOf 69) 0 67 1 = true := by kernel_rfl
set_option maxHeartbeats 1000000 in
set_option maxRecDepth 100000 in
theorem copyfreshP (b : Nat) (w : World) (h0 : w.cell? ⟨b, 0, none⟩ = some (.pointer none)) (hsh : w.shape? b = some (69, 2)) (hfz : w.frozen? ⟨b, 0, none⟩ = false) :
    Calls Tryz.prog 83 #[.pointer (some ⟨b, 0, none⟩)] w fun e w' => e = .returned (.tuple #[]) ∧ w' = w.setCell ⟨b, 0, none⟩ (.pointer (some ⟨b, 0, none⟩)) := by
  obtain ⟨j, hj, hjs⟩ := Option.map_eq_some_iff.1 infoB
  have h1 := Lib.run_to_unsafe (P := Tryz.prog) w ⟨b, 0, none⟩ Tryz.underlying64 Tryz.underlying99 hj (by rw [hjs]; decide) hsh (Nat.zero_lt_succ 1)
  have h2 := Lib.run_from_unsafe (P := Tryz.prog) w ⟨b, 0, none⟩ Tryz.underlying99 Tryz.underlying64 hj hsh liesP
  have h3 := run_callFunc_extern (P := Tryz.prog) Tryz.func102 (by kernel_rfl) (by kernel_rfl) (by kernel_rfl) (e := Extern.AbiNoEscape.same) (by kernel_rfl) #[.pointer (some ⟨b, 0, none⟩)] w
  rw [Lib.run_noEscape] at h3
  clear hj hjs hsh
  go_enter Tryz.func83, Tryz.ntmps83
  go_wp2
  go_end0
  exact ⟨rfl, rfl⟩
theorem copycheckP {w : World} {B b : Nat} {p v : Value} {bs : List UInt8} (h : Pd w B b p v bs) :
    Calls Tryz.prog 83 #[.pointer (some ⟨b, 0, none⟩)] w fun e w' => e = .returned (.tuple #[]) ∧ Pd w' B b (.pointer (some ⟨b, 0, none⟩)) v bs ∧ Keeps (fun k => k = b) w w' := by
  rcases h.p with rfl | rfl
  · refine Calls.mono (copyfreshP b w (cell_of_row _ _ _ _ _ _ h.blk) (by simp [World.shape?, h.blk]) (frozen_cells h.blk 0)) ?_
    rintro e w' ⟨rfl, rfl⟩
    have hk : Keeps (fun k => k = b) w (w.setCell ⟨b, 0, none⟩ (.pointer (some ⟨b, 0, none⟩))) := Keeps.setCell _ _ _ rfl
    exact ⟨rfl, ⟨h.le, cell_modify h.blk 0 _, .inr rfl, owns_obj h.row hk (fun g hg e => h.ne (by rw [hg, e])), h.ne⟩, hk⟩
  · have := Any.Builder_copyCheck_used (P := Tryz.prog) (ρ := Tryz.lays240_ren) Tryz.lays240 Tryz.Builder_X72_240 b w (cell_of_row _ _ _ _ _ _ h.blk)
    refine Calls.mono this ?_
    rintro e w' ⟨rfl, rfl⟩
    exact ⟨rfl, h, Keeps.refl _ _⟩
set_option maxHeartbeats 1000000 in
set_option maxRecDepth 100000 in
theorem writestrP {w : World} {B b : Nat} {p v : Value} {bs : List UInt8} (h : Pd w B b p v bs) (s : ByteArray) (hlen : bs.length + s.size ≤ 140737488355328) (hB : B ≤ w.heap.size) :
    Calls Tryz.prog 63 #[.pointer (some ⟨b, 0, none⟩), .string s] w fun e w' => e = .returned (.tuple #[.int .i64 s.size, .nilIface]) ∧
      ∃ v', Pd w' B b (.pointer (some ⟨b, 0, none⟩)) v' (bs ++ bl s) ∧ Keeps (fun k => k = b ∨ v.ownBlock = some k) w w' ∧ ∀ g, v'.ownBlock = some g → v.ownBlock = some g ∨ w.heap.size ≤ g := by
  obtain ⟨i0, hi, hz0, hz1, hz2⟩ := info_parts Tryz.infoByte
  have cC := copycheckP h
  go_enter Tryz.func63, Tryz.ntmps63
  go_wp2_with fail
  refine cC.mono ?_
  rintro e w1 ⟨rfl, h1, hk1⟩
  have c1 : w1.cell? ⟨b, 1, none⟩ = some v := cell_of_row _ _ _ _ _ _ h1.blk
  have hs1 := hk1.size
  go_wp2_with (at_builtin; refine wpList_append_str_lies _ rfl _ _ 65 9 rfl B 5 i0 Tryz.underlying65 Tryz.underlying9 hi hz0 hz1 hz2 v bs.length (bcells bs) rfl h1.row s rfl (by unfold maxLen; omega) hlen (by omega) ?_)
  intro v' w2 hown' hgrow hlies
  have hb1 : b < w1.heap.size := lt_of_obj h1.blk
  have hb2 : w2.heap[b]? = some (.cells #[.pointer (some ⟨b, 0, none⟩), v] 69 (0, 0)) := (hgrow.block b hb1 (fun e => h1.ne e.symm)).trans h1.blk
  have d1 : w2.cell? ⟨b, 1, none⟩ = some v := cell_of_row _ _ _ _ _ _ hb2
  have f1 : w2.frozen? ⟨b, 1, none⟩ = false := frozen_cells hb2 1
  have hne' : v'.ownBlock ≠ some b := fun e => (hlies b e).elim (fun e => h1.ne e) (fun e => by omega)
  have hown2 : w2.ownsRow B 5 1 v' (bs ++ bl s).length (bcells (bs ++ bl s)) := by
    rw [List.length_append, bl_len, bcells_append]; exact hown'
  have hsz2 := hgrow.size
  have hres : ∀ ao n' cap, v' = .slice ao n' cap → Pd (w2.setCell ⟨b, 1, none⟩ v') B b (.pointer (some ⟨b, 0, none⟩)) v' (bs ++ bl s) ∧ Keeps (fun k => k = b ∨ v.ownBlock = some k) w (w2.setCell ⟨b, 1, none⟩ v') ∧ ∀ g, v'.ownBlock = some g → v.ownBlock = some g ∨ w.heap.size ≤ g := fun ao n' cap _ => by
    have hk3 : Keeps (fun k => k = b) w2 (w2.setCell ⟨b, 1, none⟩ v') := Keeps.setCell _ _ _ rfl
    refine ⟨⟨h.le, cell_modify hb2 1 _, .inr rfl, owns_obj hown2 hk3 (fun g hg e => hne' (by rw [hg, e])), hne'⟩, ?_, fun g hg => (hlies g hg).imp id (fun e => by omega)⟩
    refine ((hk1.mono (fun _ _ e => .inl e)).trans (Keeps.of_grownBy (Z := fun k => v.ownBlock = some k) hgrow (fun r e => e)) (fun _ _ e => .inr e)).trans hk3 (fun _ _ e => .inl e)
  obtain ⟨ao, n', cap, rfl⟩ : ∃ ao n' cap, v' = .slice ao n' cap := by
    rcases hown'.2 with ⟨hv, _⟩ | ⟨g, cap, cur, hv, _⟩
    · exact ⟨_, _, _, hv⟩
    · exact ⟨_, _, _, hv⟩
  have Hr := Lib.hid (hres ao n' cap rfl)
  clear hres hown' hown2 hlies hne' hgrow h1 hk1 cC
  go_wp2
  go_ret2
  exact ⟨rfl, _, Hr.out⟩
set_option maxHeartbeats 1000000 in
set_option maxRecDepth 100000 in
theorem lenP {w : World} {B b : Nat} {p v : Value} {bs : List UInt8} (h : Pd w B b p v bs) :
    Calls Tryz.prog 44 #[.pointer (some ⟨b, 0, none⟩)] w fun e w' => e = .returned (.int .i64 bs.length) ∧ w' = w := by
  obtain ⟨ao, cap, rfl⟩ : ∃ ao cap, v = .slice ao bs.length cap := by
    rcases h.row.2 with ⟨hv, h0⟩ | ⟨g, cap, cur, hv, _⟩
    · exact ⟨none, 0, by rw [hv, h0]⟩
    · exact ⟨_, _, hv⟩
  have c1 : w.cell? ⟨b, 1, none⟩ = some (.slice ao bs.length cap) := cell_of_row _ _ _ _ _ _ h.blk
  go_enter Tryz.func44, Tryz.ntmps44
  go_wp2
  go_ret
  exact ⟨rfl, rfl⟩
set_option maxHeartbeats 1000000 in
set_option maxRecDepth 100000 in
theorem strP {w : World} {B b : Nat} {p v : Value} {l : List UInt8} (h : Pd w B b p v l) (h0 : l ≠ []) :
    Calls Tryz.prog 45 #[.pointer (some ⟨b, 0, none⟩)] w fun e w' => e = .returned (.string (ba l)) ∧ Below B w w' := by
  have hl0 : l.length ≠ 0 := by simpa using h0
  have hown := h.row
  obtain ⟨g, cap, cur, rfl, hbg, hg, hnc, hcm, hcs, htake⟩ : ∃ g cap cur, v = .slice (some ⟨g, 0, none⟩) l.length cap ∧ B ≤ g ∧ w.heap[g]? = some (.cells cur 5 (0, 0)) ∧ l.length ≤ cap ∧ cap ≤ maxLen ∧ cur.size = cap * 1 ∧ cur.toList.take (l.length * 1) = bcells l := by
    rcases hown.2 with ⟨_, hz⟩ | ⟨g, cap, cur, hv, r⟩
    · exact absurd hz hl0
    · exact ⟨g, cap, cur, hv, r⟩
  have c0 : w.cell? ⟨b, 1, none⟩ = some (.slice (some ⟨g, 0, none⟩) l.length cap) := cell_of_row _ _ _ _ _ _ h.blk
  have c1 : w.drew.cell? ⟨b, 1, none⟩ = some (.slice (some ⟨g, 0, none⟩) l.length cap) := c0
  have hSD : (Builtin.unsafeSliceData_ #[65] 97 #[.slice (some ⟨g, 0, none⟩) l.length cap]).run Tryz.prog w.drew = .ok (.pointer (some ⟨g, 0, none⟩)) w.drew :=
    Lib.run_unsafeSliceData_row _ _ _ _ _ _ (by omega)
  have hUS : (Builtin.unsafeString_ #[97, 3] 9 #[.pointer (some ⟨g, 0, none⟩), .int .i64 l.length]).run Tryz.prog w.drew = .ok (.string ⟨l.toArray⟩) (w.drew.freeze ⟨g, 0, none⟩ l.length) := by
    refine Lib.run_unsafeString_row w.drew 97 3 9 5 Tryz.underlying97 (by kernel_rfl) g cur.size (by have hg' : w.drew.heap[g]? = some (.cells cur 5 (0, 0)) := hg; simp [World.shape?, hg']) l h0 (by omega) (by unfold maxLen at hcm; omega) ?_
    intro j x hx
    have := hown.cells (g := g) rfl j (.int .u8 x.toNat) (by simp [bcells, hx])
    exact this
  have hfin : Below B w (w.drew.freeze ⟨g, 0, none⟩ l.length) := Lib.below_freeze (Below.drew (Below.refl B w)) (p := ⟨g, 0, none⟩) hbg _
  have mixed : Tryz.prog.follows .mixedOrders = true := by kernel_rfl
  clear hown hg hcs htake h
  go_enter Tryz.func45, Tryz.ntmps45
  go_wp2
  go_region
  all_goals (go_wp2; go_ret; exact ⟨rfl, hfin⟩)
theorem Pd.new (w : World) : Pd (w.alloc (.cells #[.pointer none, .slice none 0 0] 69)) w.heap.size w.heap.size (.pointer none) (.slice none 0 0) [] :=
  ⟨Nat.le_refl _, heap_alloc_new _ _, .inl rfl, ⟨rfl, .inl ⟨rfl, rfl⟩⟩, by simp [Value.ownBlock]⟩
end Go.Proofs.YtlomjbfhalmalaaGreatDoor.C
set_option linter.unusedVariables false
set_option linter.unusedSimpArgs false
namespace Go.Proofs.YtlomjbfhalmalaaGreatDoor.C
open Go Go.RowKit Go.Shelf Go.Proofs.YtlomjbfhalmalaaGreatDoor.M Go.Proofs.YtlomjbfhalmalaaGreatDoor.Z
def Wrote (b : Nat) (w : World) (v : Value) (w' : World) (v' : Value) : Prop := Keeps (fun k => k = b ∨ v.ownBlock = some k) w w' ∧ ∀ g, v'.ownBlock = some g → v.ownBlock = some g ∨ w.heap.size ≤ g
theorem Wrote.trans {b : Nat} {w w1 w2 : World} {v v1 v2 : Value} (h : Wrote b w v w1 v1) (k : Wrote b w1 v1 w2 v2) : Wrote b w v w2 v2 := by
  refine ⟨h.1.trans k.1 (fun i hi e => ?_), fun g hg => ?_⟩
  · rcases e with e | e
    · exact .inl e
    · rcases h.2 i e with e | e
      · exact .inr e
      · omega
  · rcases k.2 g hg with e | e
    · exact h.2 g e
    · exact .inr (Nat.le_trans h.1.size e)
theorem Wrote.after {b : Nat} {w w1 w2 : World} {v v2 : Value} (h : Keeps none' w w1) (k : Wrote b w1 v w2 v2) : Wrote b w v w2 v2 := by
  refine ⟨(h.mono (fun _ _ h => h.elim)).trans k.1 (fun i hi e => e), fun g hg => ?_⟩
  rcases k.2 g hg with e | e
  · exact .inl e
  · exact .inr (Nat.le_trans h.size e)
theorem Wrote.later {b : Nat} {w w1 w2 : World} {v v1 : Value} (h : Wrote b w v w1 v1) (k : Keeps none' w1 w2) : Wrote b w v w2 v1 :=
  ⟨h.1.trans k (fun _ _ h => h.elim), h.2⟩
theorem Wrote.obj {b : Nat} {w w' : World} {v v' : Value} (h : Wrote b w v w' v') {k : Nat} {o : Obj} (ho : w.heap[k]? = some o) (hb : k ≠ b) (hv : v.ownBlock ≠ some k) : w'.heap[k]? = some o :=
  h.1.obj ho (fun e => e.elim hb hv)
def Po (w : World) (B b : Nat) (v : Value) (bs : List UInt8) : Prop := ∃ p, Pd w B b p v bs
theorem Po.keeps {w w' : World} {B b : Nat} {v : Value} {bs : List UInt8} (h : Po w B b v bs) (hk : Keeps none' w w') : Po w' B b v bs := by
  obtain ⟨p, h⟩ := h
  exact ⟨p, h.keeps hk (fun h => h) (fun _ _ h => h)⟩
theorem Po.lt {w : World} {B b : Nat} {v : Value} {bs : List UInt8} (h : Po w B b v bs) : b < w.heap.size ∧ B ≤ b ∧ ∀ g, v.ownBlock = some g → g < w.heap.size := by
  obtain ⟨p, h⟩ := h
  refine ⟨lt_of_obj h.blk, h.le, fun g hg => ?_⟩
  rcases h.row.2 with ⟨rfl, _⟩ | ⟨g', cap, cur, rfl, _, hh, _⟩
  · cases hg
  · injection hg with hg
    subst hg
    exact lt_of_obj hh
theorem wstr {w : World} {B b : Nat} {v : Value} {bs : List UInt8} (h : Po w B b v bs) (s : ByteArray) (hlen : bs.length + s.size ≤ 140737488355328) :
    Calls Tryz.prog 63 #[.pointer (some ⟨b, 0, none⟩), .string s] w fun e w' => e = .returned (.tuple #[.int .i64 s.size, .nilIface]) ∧ ∃ v', Po w' B b v' (bs ++ bl s) ∧ Wrote b w v w' v' := by
  have hl := h.lt
  obtain ⟨p, h⟩ := h
  refine (writestrP h s hlen (by omega)).mono ?_
  rintro e w' ⟨rfl, v', h1, h2, h3⟩
  exact ⟨rfl, v', ⟨_, h1⟩, h2, h3⟩
set_option maxHeartbeats 4000000 in
set_option maxRecDepth 100000 in
theorem word_one {w : World} {B b : Nat} {v : Value} {bs : List UInt8} (h : Po w B b v bs) (hT' : hT w) (x : UInt8) (h1 : 32 < x.toNat) (h2 : x.toNat < 127) (h3 : decide (0 ≤ Lib.indexByte [124, 45, 40, 41, 34, 42, 63, 126, 46, 92] x) = false) (hlen : bs.length ≤ 1000000) :
    Calls Tryz.prog 64 #[.pointer (some ⟨b, 0, none⟩), .string (ba [x]), .bool false] w fun e w' => e = .returned (.tuple #[]) ∧ ∃ v', Po w' B b v' (bs ++ [x]) ∧ Wrote b w v w' v' := by
  have hsz : (ba [x]).size = 1 := by rw [ba_size]; rfl
  have cD := decode_rest (ba [x]) 0 w hT' (by omega)
  have hu := b0_unit (l := (bl (ba [x])).drop 0) (by rw [bl_ba]; simp) (by rw [bl_ba]; show x.toNat < 128; omega)
  rw [hu.1, hu.2, bl_ba, show b0 ([x].drop 0) = x.toNat from rfl] at cD
  have hx : (ba [x]).extract 0 (ba [x]).size = ba [x] := by rw [extract_ba (Nat.le_refl _), bl_ba, ba_size]; rfl
  rw [hx] at cD
  have hx1 : (ba [x]).extract 0 1 = ba [x] := by rw [hsz] at hx; exact hx
  have hg : (ba [x])[0]'(by omega) = x := rfl
  have hcv : (((ba [x])[0]'(by omega)).toNat : Int) = (x.toNat : Nat) := rfl
  have cC := fun (W : World) => Tryz.strings_ContainsRune_ascii ⟨#[124, 45, 40, 41, 34, 42, 63, 126, 46, 92]⟩ (x.toNat : Nat) W (by omega) (by omega)
  have e1 : (decide (0 ≤ Lib.indexByte (⟨#[124, 45, 40, 41, 34, 42, 63, 126, 46, 92]⟩ : ByteArray).data.toList ((x.toNat : Int)).toNat.toUInt8)) = false := by
    rw [Int.toNat_natCast]
    have : x.toNat.toUInt8 = x := by simp
    rw [this]; exact h3
  simp only [e1] at cC
  have i1 : (((x.toNat : Nat) : Int) == 65533) = false := beq_eq_false_iff_ne.2 (by omega)
  have i2 : ¬ ((x.toNat : Nat) : Int) ≤ 32 := by omega
  have i2' : decide (((x.toNat : Nat) : Int) ≤ 32) = false := decide_eq_false i2
  have i3 : (((x.toNat : Nat) : Int) == 127) = false := beq_eq_false_iff_ne.2 (by omega)
  have Hl := h.lt
  clear e1 hu h3
  go_enter Tryz.func64, Tryz.ntmps64
  go_wp2
  refine wp_loop_rounds 2 ?_
  rw [rounds_succ]
  go_wp2_with fail
  refine cD.mono ?_
  rintro e w1 ⟨rfl, hb1⟩
  have k1 := Keeps.of_below0 hb1
  have h1' := h.keeps k1
  go_wp2_with fail
  refine (cC _).mono ?_
  rintro e w2 ⟨rfl, rfl⟩
  have cW := fun (W : World) (hW : Keeps none' w2 W) => wstr (h1'.keeps hW) (ba [x]) (by rw [ba_size, List.length_singleton]; omega)
  have k0 : Keeps none' w2 w2.drew := Keeps.drew _ _
  have ew : IntKind.i64.wrap 1 = 1 := by decide
  go_wp2_with fail
  go_region_law (first | (go_simp; go_at_call 63; (try rw [hx1]); refine (cW _ (by first | assumption | exact k0)).mono ?_; rintro e w3 ⟨rfl, v', hp3, hw3⟩))
  go_wp2_with fail
  rw [rounds_succ]
  go_wp2
  go_end0
  rw [bl_ba] at hp3
  exact ⟨rfl, v', hp3, Wrote.after (k1.trans k0 (fun _ _ h => h)) hw3⟩
set_option maxHeartbeats 8000000 in
set_option maxRecDepth 100000 in
theorem q_word {w : World} {B b : Nat} {v : Value} {bs : List UInt8} (h : Po w B b v bs) (hT' : hT w) (hF : Far b) (K within : Int) (hK : K = 1 ∨ K = 2) (x : UInt8) (h1 : 32 < x.toNat) (h2 : x.toNat < 127) (h3 : decide (0 ≤ Lib.indexByte [124, 45, 40, 41, 34, 42, 63, 126, 46, 92] x) = false) (hlen : bs.length ≤ 1000) :
    Calls Tryz.prog 43 #[.pointer (some ⟨b, 0, none⟩), leafV K [x], .int .i64 within] w fun e w' => e = .returned (.tuple #[]) ∧ ∃ v', Po w' B b v' (bs ++ [x] ++ (if K = 2 then [42] else [])) ∧ Wrote b w v w' v' := by
  have kA : Keeps none' w (w.alloc (.cells (leafC K [x]) 24)) := Keeps.alloc _ _ _
  obtain ⟨c0, c1, c2, c3, c4⟩ := new5 w (.int .i64 K) (.string (ba [x])) (.string ⟨#[]⟩) (.int .i64 0) (.slice none 0 0)
  have bq := heap_alloc_new w (.cells (leafC K [x]) 24)
  have hA := h.keeps kA
  have hlt := h.lt
  have cW := word_one hA (hT_keeps hT' kA (fun h => h) (fun h => h)) x h1 h2 h3 (by omega)
  rcases hK with rfl | rfl
  · go_enter Tryz.func43, Tryz.ntmps43
    go_wp2_with fail
    refine cW.mono ?_
    rintro e w1 ⟨rfl, v', hp1, hw1⟩
    have d0 : w1.cell? ⟨w.heap.size, 0, none⟩ = some (.int .i64 1) := cell_of_row _ _ _ _ _ _ (hw1.obj bq (by omega) (fun e => by have := hlt.2.2 _ e; omega))
    have fin : Wrote b w v w1 v' := Wrote.after kA hw1
    clear hw1 cW
    go_wp2
    go_end0
    exact ⟨rfl, v', by simpa using hp1, fin⟩
  · go_enter Tryz.func43, Tryz.ntmps43
    go_wp2_with fail
    refine cW.mono ?_
    rintro e w1 ⟨rfl, v', hp1, hw1⟩
    have d0 : w1.cell? ⟨w.heap.size, 0, none⟩ = some (.int .i64 2) := cell_of_row _ _ _ _ _ _ (hw1.obj bq (by omega) (fun e => by have := hlt.2.2 _ e; omega))
    have fin : Wrote b w v w1 v' := Wrote.after kA hw1
    clear hw1 cW
    go_wp2_with fail
    refine (wstr hp1 ⟨#[42]⟩ (by simp; show _ + 1 ≤ _; omega)).mono ?_
    rintro e w2 ⟨rfl, v2, hp2, hw2⟩
    have fin2 := fin.trans hw2
    clear hw2 fin
    go_wp2
    go_end0
    exact ⟨rfl, v2, by simpa using hp2, fin2⟩
theorem Po.own {w : World} {B b : Nat} {v : Value} {bs : List UInt8} (h : Po w B b v bs) : ∀ g, v.ownBlock = some g → B ≤ g := by
  obtain ⟨p, h⟩ := h
  intro g hg
  rcases h.row.2 with ⟨rfl, _⟩ | ⟨g', cap, cur, rfl, hb, hh, _⟩
  · cases hg
  · injection hg with hg
    subst hg
    exact hb
set_option maxHeartbeats 8000000 in
set_option maxRecDepth 100000 in
theorem q_not {w : World} {B b : Nat} {v : Value} {bs : List UInt8} (h : Po w B b v bs) (hT' : hT w) (hF : Far b) (hFB : 1 < B ∧ 2 < B) (within : Int) (g : Nat) (x : UInt8) (hgB : g < B) (hgg : w.heap[g]? = some (.cells (leafC 1 [x]) 24 (0, 0))) (h1 : 32 < x.toNat) (h2 : x.toNat < 127) (h3 : decide (0 ≤ Lib.indexByte [124, 45, 40, 41, 34, 42, 63, 126, 46, 92] x) = false) (hlen : bs.length ≤ 100) :
    Calls Tryz.prog 43 #[.pointer (some ⟨b, 0, none⟩), notV g, .int .i64 within] w fun e w' => e = .returned (.tuple #[]) ∧ ∃ v', Po w' B b v' (bs ++ [45, x]) ∧ Wrote b w v w' v' := by
  have kA : Keeps none' w (w.alloc (.cells (notC g).toArray 24)) := Keeps.alloc _ _ _
  obtain ⟨c0, c1, c2, c3, c4⟩ := new5 w (.int .i64 9) (.string ⟨#[]⟩) (.string ⟨#[]⟩) (.int .i64 0) (.slice (some ⟨g, 0, none⟩) 1 1)
  have bq := heap_alloc_new w (.cells (notC g).toArray 24)
  have hA := h.keeps kA
  have hlt := h.lt
  have hown := h.own
  go_enter Tryz.func43, Tryz.ntmps43
  go_wp2_with fail
  refine (wstr hA ⟨#[45]⟩ (by show _ + 1 ≤ _; omega)).mono ?_
  rintro e w1 ⟨rfl, v1, hp1, hw1⟩
  have bq1 := hw1.obj bq (by omega) (fun e => by have := hlt.2.2 _ e; omega)
  have bg1 := hw1.obj (kA.obj hgg (fun h => h)) (by omega) (fun e => by have := hown _ e; omega)
  have fin : Wrote b w v w1 v1 := Wrote.after kA hw1
  have hTw1 : hT w1 := hT_keeps hT' fin.1 (fun e => by
    rcases e with e | e
    · exact hF.1 e
    · have := hown _ e; omega) (fun e => by
    rcases e with e | e
    · exact hF.2 e
    · have := hown _ e; omega)
  have d0 : w1.cell? ⟨w.heap.size, 0, none⟩ = some (.int .i64 9) := cell_of_row _ _ _ _ _ _ bq1
  have d4 : w1.cell? ⟨w.heap.size, 4, none⟩ = some (.slice (some ⟨g, 0, none⟩) 1 1) := cell_of_row _ _ _ _ _ _ bq1
  have i0 : w1.cell? ⟨g, 0, none⟩ = some (.int .i64 1) := cell_of_row _ _ _ _ _ _ bg1
  have i1 : w1.cell? ⟨g, 1, none⟩ = some (.string (ba [x])) := cell_of_row _ _ _ _ _ _ bg1
  have i2 : w1.cell? ⟨g, 2, none⟩ = some (.string ⟨#[]⟩) := cell_of_row _ _ _ _ _ _ bg1
  have i3 : w1.cell? ⟨g, 3, none⟩ = some (.int .i64 0) := cell_of_row _ _ _ _ _ _ bg1
  have i4 : w1.cell? ⟨g, 4, none⟩ = some (.slice none 0 0) := cell_of_row _ _ _ _ _ _ bg1
  have k0 : Keeps none' w1 w1.drew := Keeps.drew _ _
  have cW := q_word (hp1.keeps k0) (hT_keeps hTw1 k0 (fun h => h) (fun h => h)) hF 1 9 (.inl rfl) x h1 h2 h3 (by simp; omega)
  have hfin := fun w2 v2 (h : Wrote b w1.drew v1 w2 v2) => fin.trans (Wrote.after k0 h)
  clear hw1 bq1 bg1 fin hTw1 c0 c1 c2 c3 c4 kA bq hA
  go_wp2_with fail
  go_region_law (first | (go_simp; go_at_call 43; refine cW.mono ?_; rintro e w3 ⟨rfl, v', hp3, hw3⟩))
  all_goals
    go_wp2
    go_end0
    rw [show bl ⟨#[45]⟩ = [45] from rfl] at hp3
    exact ⟨rfl, v', by simpa using hp3, hfin _ _ hw3⟩
set_option maxHeartbeats 8000000 in
set_option maxRecDepth 100000 in
theorem q_all {w : World} {B b : Nat} {v : Value} (h : Po w B b v []) (hT' : hT w) (hF : Far b) (hFB : 1 < B ∧ 2 < B) (g g1 cap : Nat) (x y : UInt8) (hc : 2 ≤ cap) (hgB : g < B) (hg1B : g1 < B) (hg1 : w.heap[g1]? = some (.cells (leafC 1 [x]) 24 (0, 0)))
    (hg : ∀ j u, (notC g1 ++ leafL 2 [y])[j]? = some u → w.cell? ⟨g, j, none⟩ = some u) (h1 : 32 < x.toNat) (h2 : x.toNat < 127) (h3 : decide (0 ≤ Lib.indexByte [124, 45, 40, 41, 34, 42, 63, 126, 46, 92] x) = false) (h1y : 32 < y.toNat) (h2y : y.toNat < 127) (h3y : decide (0 ≤ Lib.indexByte [124, 45, 40, 41, 34, 42, 63, 126, 46, 92] y) = false) :
    Calls Tryz.prog 43 #[.pointer (some ⟨b, 0, none⟩), allV g cap, .int .i64 0] w fun e w' => e = .returned (.tuple #[]) ∧ ∃ v', Po w' B b v' [45, x, 32, y, 42] ∧ Wrote b w v w' v' := by
  have kA : Keeps none' w (w.alloc (.cells #[.int .i64 7, .string ⟨#[]⟩, .string ⟨#[]⟩, .int .i64 0, .slice (some ⟨g, 0, none⟩) 2 cap] 24)) := Keeps.alloc _ _ _
  obtain ⟨c0, c1, c2, c3, c4⟩ := new5 w (.int .i64 7) (.string ⟨#[]⟩) (.string ⟨#[]⟩) (.int .i64 0) (.slice (some ⟨g, 0, none⟩) 2 cap)
  have bq := heap_alloc_new w (.cells #[.int .i64 7, .string ⟨#[]⟩, .string ⟨#[]⟩, .int .i64 0, .slice (some ⟨g, 0, none⟩) 2 cap] 24)
  have hA := h.keeps kA
  have hlt := h.lt
  have hown := h.own
  have nB : ∀ k, k < B → ¬ (k = b ∨ v.ownBlock = some k) := fun k hk e => by
    rcases e with e | e
    · omega
    · have := hown _ e; omega
  have cc : ∀ W u, Wrote b w v W u → ∀ j z, (notC g1 ++ leafL 2 [y])[j]? = some z → W.cell? ⟨g, j, none⟩ = some z := fun W u hW j z hj => hW.1.cell (hg j z hj) (nB g hgB)
  have cg : ∀ W u, Wrote b w v W u → W.heap[g1]? = some (.cells (leafC 1 [x]) 24 (0, 0)) := fun W u hW => hW.1.obj hg1 (nB g1 hg1B)
  have cT : ∀ W u, Wrote b w v W u → hT W := fun W u hW => hT_keeps hT' hW.1 (nB _ hFB.1) (nB _ hFB.2)
  have cq : ∀ W u, Wrote b (w.alloc (.cells #[.int .i64 7, .string ⟨#[]⟩, .string ⟨#[]⟩, .int .i64 0, .slice (some ⟨g, 0, none⟩) 2 cap] 24)) v W u → W.heap[w.heap.size]? = some (.cells #[.int .i64 7, .string ⟨#[]⟩, .string ⟨#[]⟩, .int .i64 0, .slice (some ⟨g, 0, none⟩) 2 cap] 24 (0, 0)) := fun W u hW => hW.obj bq (by omega) (fun e => by have := hlt.2.2 _ e; omega)
  go_enter Tryz.func43, Tryz.ntmps43
  go_wp2_with fail
  refine (wstr hA ⟨#[]⟩ (by decide)).mono ?_
  rintro e w1 ⟨rfl, v1, hp1, hw1⟩
  have f1 : Wrote b w v w1 v1 := Wrote.after kA hw1
  have q1 := cq _ _ hw1
  have d0 : w1.cell? ⟨w.heap.size, 0, none⟩ = some (.int .i64 7) := cell_of_row _ _ _ _ _ _ q1
  have d4 : w1.cell? ⟨w.heap.size, 4, none⟩ = some (.slice (some ⟨g, 0, none⟩) 2 cap) := cell_of_row _ _ _ _ _ _ q1
  have i0 := cc _ _ f1 0 _ rfl
  have i1 := cc _ _ f1 1 _ rfl
  have i2 := cc _ _ f1 2 _ rfl
  have i3 := cc _ _ f1 3 _ rfl
  have i4 := cc _ _ f1 4 _ rfl
  obtain ⟨n0, n1, n2, n3, n4⟩ := new5 w1 (.int .i64 9) (.string ⟨#[]⟩) (.string ⟨#[]⟩) (.int .i64 0) (.slice (some ⟨g1, 0, none⟩) 1 1)
  have kN : Keeps none' w1 (w1.alloc (.cells (notC g1).toArray 24)) := Keeps.alloc _ _ _
  have dN : (w1.alloc (.cells (notC g1).toArray 24)).cell? ⟨w.heap.size, 0, none⟩ = some (.int .i64 7) := kN.cell d0 (fun h => h)
  have cN := q_not (hp1.keeps kN) (hT_keeps (cT _ _ f1) kN (fun h => h) (fun h => h)) hF hFB 7 g1 x hg1B (kN.obj (cg _ _ f1) (fun h => h)) h1 h2 h3 (by decide)
  go_wp2_with fail
  refine wp_loop_rounds 3 ?_
  rw [rounds_succ]
  go_wp2_with fail
  refine cN.mono ?_
  rintro e w2 ⟨rfl, v2, hp2, hw2⟩
  have hw2' := hw1.trans (Wrote.after kN hw2)
  have f2 : Wrote b w v w2 v2 := Wrote.after kA hw2'
  have q2 := cq _ _ hw2'
  have m0 : w2.cell? ⟨w.heap.size, 0, none⟩ = some (.int .i64 7) := cell_of_row _ _ _ _ _ _ q2
  have j0 := cc _ _ f2 5 _ rfl
  have j1 := cc _ _ f2 6 _ rfl
  have j2 := cc _ _ f2 7 _ rfl
  have j3 := cc _ _ f2 8 _ rfl
  have j4 := cc _ _ f2 9 _ rfl
  obtain ⟨o0, o1, o2, o3, o4⟩ := new5 w2 (.int .i64 2) (.string (ba [y])) (.string ⟨#[]⟩) (.int .i64 0) (.slice none 0 0)
  have bo := heap_alloc_new w2 (.cells (leafC 2 [y]) 24)
  have kO : Keeps none' w2 (w2.alloc (.cells (leafC 2 [y]) 24)) := Keeps.alloc _ _ _
  have l2 := hp2.lt
  go_wp2_with fail
  rw [rounds_succ]
  go_wp2_with fail
  refine (wstr (hp2.keeps kO) ⟨#[32]⟩ (Nat.le_of_ble_eq_true rfl)).mono ?_
  rintro e w3 ⟨rfl, v3, hp3, hw3⟩
  have bo3 := hw3.obj bo (by omega) (fun e => by have := l2.2.2 _ e; omega)
  have hw3' := hw2'.trans (Wrote.after kO hw3)
  have f3 : Wrote b w v w3 v3 := Wrote.after kA hw3'
  have q3 := cq _ _ hw3'
  have r0 : w3.cell? ⟨w.heap.size, 0, none⟩ = some (.int .i64 7) := cell_of_row _ _ _ _ _ _ q3
  have s0 : w3.cell? ⟨w2.heap.size, 0, none⟩ = some (.int .i64 2) := cell_of_row _ _ _ _ _ _ bo3
  have s1 : w3.cell? ⟨w2.heap.size, 1, none⟩ = some (.string (ba [y])) := cell_of_row _ _ _ _ _ _ bo3
  have s2 : w3.cell? ⟨w2.heap.size, 2, none⟩ = some (.string ⟨#[]⟩) := cell_of_row _ _ _ _ _ _ bo3
  have s3 : w3.cell? ⟨w2.heap.size, 3, none⟩ = some (.int .i64 0) := cell_of_row _ _ _ _ _ _ bo3
  have s4 : w3.cell? ⟨w2.heap.size, 4, none⟩ = some (.slice none 0 0) := cell_of_row _ _ _ _ _ _ bo3
  go_wp2_with fail
  refine (q_word hp3 (cT _ _ f3) hF 2 7 (.inr rfl) y h1y h2y h3y (Nat.le_of_ble_eq_true rfl)).mono ?_
  rintro e w4 ⟨rfl, v4, hp4, hw4⟩
  have f4 := f3.trans hw4
  go_wp2_with fail
  rw [rounds_succ]
  go_wp2_with fail
  refine (wstr hp4 ⟨#[]⟩ (Nat.le_of_ble_eq_true rfl)).mono ?_
  rintro e w5 ⟨rfl, v5, hp5, hw5⟩
  have f5 := f4.trans hw5
  clear hw5 hw4 hw3 hw3' hw2 hw2' hw1 f4 f3 f2 f1 cc cg cT cq
  go_wp2
  go_end0
  exact ⟨rfl, v5, hp5, f5⟩
end Go.Proofs.YtlomjbfhalmalaaGreatDoor.C
set_option linter.unusedVariables false
set_option linter.unusedSimpArgs false
namespace Go.Proofs.YtlomjbfhalmalaaGreatDoor.C
open Go Go.RowKit Go.Shelf Go.Proofs.YtlomjbfhalmalaaGreatDoor.M Go.Proofs.YtlomjbfhalmalaaGreatDoor.Z Go.Proofs.YtlomjbfhalmalaaGreatDoor.PAll Go.Proofs.YtlomjbfhalmalaaGreatDoorW.PrintWords Go.Proofs.YtlomjbfhalmalaaGreatDoorW.PrintLast Go.Proofs.YtlomjbfhalmalaaGreatDoorW.PrintMore
set_option maxHeartbeats 8000000 in
set_option maxRecDepth 100000 in
theorem print_A (w : World) (hT' : hT w) (g g1 cap : Nat) (hc : 2 ≤ cap) (hgB : g < w.heap.size) (hg1 : w.heap[g1]? = some (.cells (leafC 1 [97]) 24 (0, 0)))
    (hg : ∀ j u, (notC g1 ++ leafL 2 [98])[j]? = some u → w.cell? ⟨g, j, none⟩ = some u) :
    Calls Tryz.prog 14 #[allV g cap] w fun e w' => e = .returned (.tuple #[.string ⟨#[45, 97, 32, 98, 42]⟩, .nilIface]) ∧ Below w.heap.size w w' := by
  have hlt := hT_lt hT'
  have hg1B : g1 < w.heap.size := lt_of_obj hg1
  have kA : Keeps none' w (w.alloc (.cells #[.int .i64 7, .string ⟨#[]⟩, .string ⟨#[]⟩, .int .i64 0, .slice (some ⟨g, 0, none⟩) 2 cap] 24)) := Keeps.alloc _ _ _
  obtain ⟨c0, c1, c2, c3, c4⟩ := new5 w (.int .i64 7) (.string ⟨#[]⟩) (.string ⟨#[]⟩) (.int .i64 0) (.slice (some ⟨g, 0, none⟩) 2 cap)
  have bq := heap_alloc_new w (.cells #[.int .i64 7, .string ⟨#[]⟩, .string ⟨#[]⟩, .int .i64 0, .slice (some ⟨g, 0, none⟩) 2 cap] 24)
  have cc : ∀ W, Keeps none' w W → ∀ j z, (notC g1 ++ leafL 2 [98])[j]? = some z → W.cell? ⟨g, j, none⟩ = some z := fun W hW j z hj => hW.cell (hg j z hj) (fun h => h)
  have cg : ∀ W, Keeps none' w W → W.heap[g1]? = some (.cells (leafC 1 [97]) 24 (0, 0)) := fun W hW => hW.obj hg1 (fun h => h)
  go_enter Tryz.func14, Tryz.ntmps14
  go_wp2_with fail
  refine (query_parts.calls 20 7 ⟨#[]⟩ ⟨#[]⟩ 0 (some ⟨g, 0, none⟩) cap [notS 1 [97], lfS 2 [98]] 64 4 _ (C_two (cg _ kA) (cc _ kA)) hc parts_A).mono ?_
  rintro e w1 ⟨rfl, hb1⟩
  have k1 := kA.trans (Keeps.of_below0 hb1) (fun _ _ h => h)
  have bq1 := (Keeps.of_below0 hb1).obj bq (fun h => h)
  have d0 : w1.cell? ⟨w.heap.size, 0, none⟩ = some (.int .i64 7) := cell_of_row _ _ _ _ _ _ bq1
  have d1 : w1.cell? ⟨w.heap.size, 1, none⟩ = some (.string ⟨#[]⟩) := cell_of_row _ _ _ _ _ _ bq1
  have d2 : w1.cell? ⟨w.heap.size, 2, none⟩ = some (.string ⟨#[]⟩) := cell_of_row _ _ _ _ _ _ bq1
  have d3 : w1.cell? ⟨w.heap.size, 3, none⟩ = some (.int .i64 0) := cell_of_row _ _ _ _ _ _ bq1
  have d4 : w1.cell? ⟨w.heap.size, 4, none⟩ = some (.slice (some ⟨g, 0, none⟩) 2 cap) := cell_of_row _ _ _ _ _ _ bq1
  go_wp2_with fail
  refine (check_all g g1 cap 97 98 _ hc (cg _ k1) (cc _ k1)).mono ?_
  rintro e w2 ⟨rfl, hk2⟩
  have k2 := k1.trans hk2 (fun _ _ h => h)
  have bq2 := hk2.obj bq1 (fun h => h)
  have kP : Keeps none' w2 (w2.alloc (.cells #[.pointer none, .slice none 0 0] 69)) := Keeps.alloc _ _ _
  have bq3 := kP.obj bq2 (fun h => h)
  have e0 : (w2.alloc (.cells #[.pointer none, .slice none 0 0] 69)).cell? ⟨w.heap.size, 0, none⟩ = some (.int .i64 7) := cell_of_row _ _ _ _ _ _ bq3
  have e1 : (w2.alloc (.cells #[.pointer none, .slice none 0 0] 69)).cell? ⟨w.heap.size, 1, none⟩ = some (.string ⟨#[]⟩) := cell_of_row _ _ _ _ _ _ bq3
  have e2 : (w2.alloc (.cells #[.pointer none, .slice none 0 0] 69)).cell? ⟨w.heap.size, 2, none⟩ = some (.string ⟨#[]⟩) := cell_of_row _ _ _ _ _ _ bq3
  have e3 : (w2.alloc (.cells #[.pointer none, .slice none 0 0] 69)).cell? ⟨w.heap.size, 3, none⟩ = some (.int .i64 0) := cell_of_row _ _ _ _ _ _ bq3
  have e4 : (w2.alloc (.cells #[.pointer none, .slice none 0 0] 69)).cell? ⟨w.heap.size, 4, none⟩ = some (.slice (some ⟨g, 0, none⟩) 2 cap) := cell_of_row _ _ _ _ _ _ bq3
  have k3 := k2.trans kP (fun _ _ h => h)
  have hs2 := k2.size
  have hPo : Po (w2.alloc (.cells #[.pointer none, .slice none 0 0] 69)) w2.heap.size w2.heap.size (.slice none 0 0) [] := ⟨_, Pd.new w2⟩
  go_wp2_with fail
  refine (q_all hPo (hT_keeps hT' k3 (fun h => h) (fun h => h)) ⟨by omega, by omega⟩ ⟨by omega, by omega⟩ g g1 cap 97 98 hc (by omega) (by omega) (cg _ k3) (cc _ k3) (by decide) (by decide) (by decide) (by decide) (by decide) (by decide)).mono ?_
  rintro e w4 ⟨rfl, v4, hp4, hw4⟩
  have hl4 := hp4.lt
  obtain ⟨p4, hp4⟩ := hp4
  go_wp2_with fail
  refine (lenP hp4).mono ?_
  rintro e w5 ⟨rfl, rfl⟩
  go_wp2_with fail
  refine (strP hp4 (by simp)).mono ?_
  rintro e w6 ⟨rfl, hb6⟩
  have fin : Below w.heap.size w w6 := ((k3.mono (Z' := fun k => w.heap.size ≤ k) (fun _ _ h => h.elim)).trans (hw4.1.mono (Z' := fun k => w2.heap.size ≤ k) (fun k hk e => by
    rcases e with e | e
    · omega
    · exact (Po.own hPo) _ e)) (fun k hk e => by omega)).below (Nat.le_refl _) (fun k h => h) |>.trans (hb6.mono (by omega))
  go_wp2
  go_ret2
  exact ⟨rfl, fin⟩
end Go.Proofs.YtlomjbfhalmalaaGreatDoor.C
