/-
  Of this seat's texts what the claim wants (printed by a program): J9.
-/
import Derived.Test.YtlomjbfhalmalaaGreatDoortJ5
set_option linter.unusedVariables false
set_option linter.unusedSimpArgs false
namespace Go.Proofs.YtlomjbfhalmalaaGreatDoor.C
open Go Go.RowKit Go.Shelf Go.Proofs.YtlomjbfhalmalaaGreatDoor.M Go.Proofs.YtlomjbfhalmalaaGreatDoor.Z
def setMap (w : World) (b : Nat) (es : Array MapEntry) (ck : Nat) : World := { w with heap := w.heap.setIfInBounds b (.map es ck) }
theorem setMap_heap {w : World} {b : Nat} (h : b < w.heap.size) (es : Array MapEntry) (ck : Nat) : (setMap w b es ck).heap[b]? = some (.map es ck) := by
  simp [setMap, h]
theorem setMap_twice (w : World) (b : Nat) (es es' : Array MapEntry) (ck ck' : Nat) : setMap (setMap w b es ck) b es' ck' = setMap w b es' ck' := by
  simp [setMap, Array.setIfInBounds_setIfInBounds]
theorem run_ins {w : World} {b : Nat} {es : Array MapEntry} {ck : Nat} {k : ByteArray} {v : Value} (hb : w.heap[b]? = some (.map es ck)) (hf : Instr.findNow .string (.string k) es.toList 0 = some none) :
    (Instr.mapUpdate 161 (.map (some b)) (.string k) v).run Tryz.prog w = .ok () (setMap w b (es.push { key := .string k, val := v, born := ck }) (ck + 1)) := by
  simp [Instr.mapUpdate, run_underlying Tryz.underlying161, MapKept.run_getObj_map hb, MapKept.run_checkKey (k := .string k) Tryz.underlying9 trivial, MapKept.run_findKey Tryz.underlying9 hf, MapKept.run_setObj_map _ hb, Result.andThen, setMap]
def sg (i : Nat) : List MapEntry := [⟨.string ⟨#[45]⟩, .func (.func 118) #[] #[], 0⟩, ⟨.string ⟨#[40]⟩, .func (.func 119) #[] #[], 1⟩, ⟨.string ⟨#[34]⟩, .func (.func 120) #[] #[], 2⟩, ⟨.string ⟨#[126]⟩, .func (.func 108) #[] #[], 3⟩, ⟨.string ⟨#[124]⟩, .func (.func 121) #[] #[], 4⟩, ⟨.string ⟨#[41]⟩, .func (.func 121) #[] #[], 5⟩, ⟨.string ⟨#[]⟩, .func (.func 121) #[] #[], 6⟩].take i
def sgW (w : World) (i : Nat) : World := setMap (w.alloc (.map #[] 0)) w.heap.size (sg i).toArray i
theorem ins_at (w : World) (i : Nat) (k : ByteArray) (v : Value) (hf : Instr.findNow .string (.string k) (sg i) 0 = some none) (he : (sg i).toArray.push ⟨.string k, v, i⟩ = (sg (i + 1)).toArray) :
    (Instr.mapUpdate 161 (.map (some w.heap.size)) (.string k) v).run Tryz.prog (sgW w i) = .ok () (sgW w (i + 1)) := by
  have h := run_ins (w := sgW w i) (b := w.heap.size) (es := (sg i).toArray) (ck := i) (k := k) (v := v) (setMap_heap (by simp) _ _) hf
  rw [h, he]
  unfold sgW
  rw [setMap_twice]
theorem sgW_0 (w : World) : w.alloc (.map #[] 0) = sgW w 0 := by
  unfold sgW setMap
  have : (w.alloc (.map #[] 0)).heap.setIfInBounds w.heap.size (.map #[] 0) = (w.alloc (.map #[] 0)).heap := by
    apply Array.ext_getElem?
    intro i
    rw [Array.getElem?_setIfInBounds]
    split
    · rename_i e
      subst e
      rw [heap_alloc_new]; simp
    · rfl
  have e : ∀ (W : World) (h : Array Obj), h = W.heap → W = { W with heap := h } := by
    intro W h e
    subst e; rfl
  exact e _ _ this
set_option maxHeartbeats 4000000 in
set_option maxRecDepth 100000 in
theorem signs_any (w : World) :
    Calls Tryz.prog 109 #[] w fun e w' => e = .returned (.map (some w.heap.size)) ∧ w' = sgW w 7 := by
  have hmm := @run_makeMap Tryz.prog
  have h0 := ins_at w 0 ⟨#[45]⟩ (.func (.func 118) #[] #[]) rfl rfl
  have h1 := ins_at w 1 ⟨#[40]⟩ (.func (.func 119) #[] #[]) rfl rfl
  have h2 := ins_at w 2 ⟨#[34]⟩ (.func (.func 120) #[] #[]) rfl rfl
  have h3 := ins_at w 3 ⟨#[126]⟩ (.func (.func 108) #[] #[]) rfl rfl
  have h4 := ins_at w 4 ⟨#[124]⟩ (.func (.func 121) #[] #[]) rfl rfl
  have h5 := ins_at w 5 ⟨#[41]⟩ (.func (.func 121) #[] #[]) rfl rfl
  have h6 := ins_at w 6 ⟨#[]⟩ (.func (.func 121) #[] #[]) rfl rfl
  have hw := sgW_0 w
  go_enter Tryz.func109, Tryz.ntmps109
  go_wp2
  go_ret
  exact ⟨rfl, rfl⟩
theorem sgW_map (w : World) : (sgW w 7).heap[w.heap.size]? = some (.map (sg 7).toArray 7) := setMap_heap (by simp) _ _
theorem sgW_keeps (w : World) : Keeps none' w (sgW w 7) := by
  refine ⟨rfl, rfl, rfl, ?_, fun k hk _ => ?_⟩
  · simp [sgW, setMap]
  · simp only [sgW, setMap]
    rw [Array.getElem?_setIfInBounds_ne (by omega)]
    have h := (Keeps.alloc none' w (.map #[] 0)).block k hk (fun h => h)
    exact h
theorem look_hit {W : World} {b : Nat} (hb : W.heap[b]? = some (.map (sg 7).toArray 7)) {k : ByteArray} {i : Nat} {v : Value} (hf : Instr.findNow .string (.string k) (sg 7) 0 = some (some (i, v))) :
    (Instr.lookup 161 (.map (some b)) (.string k) true).run Tryz.prog W = .ok (.tuple #[v, .bool true]) W := by
  simp [Instr.lookup, run_underlying Tryz.underlying161, MapKept.run_getObj_map hb, MapKept.run_checkKey (k := .string k) Tryz.underlying9 trivial, MapKept.run_findKey Tryz.underlying9 hf, Result.andThen]
theorem infoFn : (Tryz.prog.info? 159).map (·.zero) = some (some .nilFunc) := by kernel_rfl
theorem fnZero (w : World) : (zeroValue 159).run Tryz.prog w = .ok .nilFunc w := by
  obtain ⟨i, hi, hz⟩ := Option.map_eq_some_iff.1 infoFn
  simp [zeroValue, typeInfo, hi, hz]
theorem look_miss {W : World} {b : Nat} (hb : W.heap[b]? = some (.map (sg 7).toArray 7)) {k : ByteArray} (hf : Instr.findNow .string (.string k) (sg 7) 0 = some none) :
    ∃ z, (Instr.lookup 161 (.map (some b)) (.string k) true).run Tryz.prog W = .ok (.tuple #[z, .bool false]) W := by
  have hz : ∃ z, ∀ w, (zeroValue 159).run Tryz.prog w = .ok z w := ⟨_, fnZero⟩
  obtain ⟨z, hz⟩ := hz
  exact ⟨z, by simp [Instr.lookup, run_underlying Tryz.underlying161, MapKept.run_getObj_map hb, MapKept.run_checkKey (k := .string k) Tryz.underlying9 trivial, MapKept.run_findKey Tryz.underlying9 hf, Result.andThen, hz]⟩
set_option maxHeartbeats 4000000 in
set_option maxRecDepth 100000 in
theorem leaf_any {w : World} {b : Nat} {s : ByteArray} {p d : Nat} (h : Ps w b s p d) (hT' : hT w) (hF : Far b) (hp : p ≤ s.size) (hs : s.size ≤ 140737488351232) (ha : ∀ c ∈ bl s, c.toNat < 128 ∧ c ≠ 92)
    {p' : Nat} {wd pt : List UInt8} {n f : Nat} {st : Bool} (hR : termF ((bl s).drop p) p [] [] 0 0 false = (p', wd, pt, n, f, st))
    (h1 : Lib.hasPrefix ((bl s).drop p') [126] = false) (h2 : dots ((bl s).drop p') = false) {K : Int} (hK : n = 0 ∧ K = 1 ∨ n = 1 ∧ st = true ∧ wd ≠ [] ∧ K = 2) :
    Calls Tryz.prog 110 #[.pointer (some ⟨b, 0, none⟩)] w fun e w' => e = .returned (.agg #[.int .i64 K, .string (ba wd), .string ⟨#[]⟩, .int .i64 0, .slice none 0 0]) ∧ Ps w' b s p' d ∧ p' ≤ s.size ∧ Keeps (fun k => k = b) w w' := by
  have hb := h.lt
  have kA : Keeps none' w (w.alloc (.cells #[.int .i64 0, .string ⟨#[]⟩, .string ⟨#[]⟩, .int .i64 0, .slice none 0 0] 24)) := Keeps.alloc _ _ _
  have cT := term_any (h.keeps kA (fun h => h)) (hT_keeps hT' kA (fun h => h) (fun h => h)) hF hp hs ha hR
  simp only [termV] at cT
  go_enter Tryz.func110, Tryz.ntmps110
  go_wp2_with fail
  refine cT.mono ?_
  rintro e w1 ⟨rfl, hP1, hp', hk1⟩
  go_wp2_with fail
  have kB : Keeps none' w1 (w1.alloc (.cells (termV wd pt n f st) 168)) := Keeps.alloc _ _ _
  have hQ := hP1.keeps kB (fun h => h)
  have cR := fun (W : World) (h : Ps W b s p' d) => rest_any h hp' hs
  have cP1 := fun (W : World) => Tryz.strings_HasPrefix (s.extract p' s.size) ⟨#[126]⟩ W
  have cP2 := fun (W : World) => Tryz.strings_HasPrefix (s.extract p' s.size) ⟨#[46, 46]⟩ W
  have ex : (s.extract p' s.size).data.toList = (bl s).drop p' := bl_extract s p'
  rw [ex, show (⟨#[126]⟩ : ByteArray).data.toList = [126] from rfl, h1] at cP1
  rw [ex, show (⟨#[46, 46]⟩ : ByteArray).data.toList = [46, 46] from rfl, show Lib.hasPrefix ((bl s).drop p') [46, 46] = false from h2] at cP2
  refine (cR _ hQ).mono ?_
  rintro e w2 ⟨rfl, hk2⟩
  have hQ2 := hQ.keeps hk2 (fun h => h)
  go_wp2_with fail
  refine (cP1 _).mono ?_
  rintro e w3 ⟨rfl, rfl⟩
  go_wp2_with fail
  refine (cR _ hQ2).mono ?_
  rintro e w4 ⟨rfl, hk3⟩
  have hQ3 := hQ2.keeps hk3 (fun h => h)
  go_wp2_with fail
  refine (cP2 _).mono ?_
  rintro e w5 ⟨rfl, rfl⟩
  have bq : w5.heap[w1.heap.size]? = some (.cells (termV wd pt n f st) 168 (0, 0)) := hk3.obj (hk2.obj (heap_alloc_new w1 _) (fun h => h)) (fun h => h)
  have br : w5.heap[w.heap.size]? = some (.cells #[.int .i64 0, .string ⟨#[]⟩, .string ⟨#[]⟩, .int .i64 0, .slice none 0 0] 24 (0, 0)) := hk3.obj (hk2.obj (kB.obj (hk1.obj (heap_alloc_new w _) (by omega)) (fun h => h)) (fun h => h)) (fun h => h)
  have t0 : w5.cell? ⟨w1.heap.size, 0, none⟩ = some (.string (ba wd)) := cell_of_row _ _ _ _ _ _ bq
  have t2 : w5.cell? ⟨w1.heap.size, 2, none⟩ = some (.int .i64 (n : Nat)) := cell_of_row _ _ _ _ _ _ bq
  have t4 : w5.cell? ⟨w1.heap.size, 4, none⟩ = some (.bool st) := cell_of_row _ _ _ _ _ _ bq
  have r0 : w5.cell? ⟨w.heap.size, 0, none⟩ = some (.int .i64 0) := cell_of_row _ _ _ _ _ _ br
  have r1 : w5.cell? ⟨w.heap.size, 1, none⟩ = some (.string ⟨#[]⟩) := cell_of_row _ _ _ _ _ _ br
  have r2 : w5.cell? ⟨w.heap.size, 2, none⟩ = some (.string ⟨#[]⟩) := cell_of_row _ _ _ _ _ _ br
  have r3 : w5.cell? ⟨w.heap.size, 3, none⟩ = some (.int .i64 0) := cell_of_row _ _ _ _ _ _ br
  have r4 : w5.cell? ⟨w.heap.size, 4, none⟩ = some (.slice none 0 0) := cell_of_row _ _ _ _ _ _ br
  have g0 := frozen_cells br 0
  have g1 := frozen_cells br 1
  have g2 := frozen_cells br 2
  have g3 := frozen_cells br 3
  have g4 := frozen_cells br 4
  have kw : Keeps (fun k => k = b) w w5 := (((((kA.mono (Z' := fun k => k = b) (fun _ _ h => h.elim)).trans hk1 (fun _ _ h => h)).trans kB (fun _ _ h => h.elim)).trans hk2 (fun _ _ h => h.elim)).trans hk3 (fun _ _ h => h.elim))
  have fin : ∀ W, Keeps (fun k => k = w.heap.size) w5 W → Ps W b s p' d ∧ p' ≤ s.size ∧ Keeps (fun k => k = b) w W := fun W hk => ⟨hQ3.keeps hk (by omega), hp', kw.trans hk (fun i hi e => by omega)⟩
  clear cP1 cP2 cR bq br hk3 hk2 kB
  rcases hK with ⟨rfl, rfl⟩ | ⟨rfl, rfl, hwd, rfl⟩
  · go_wp2
    simp [bodyPost, results, Tryz.results110, go_sem, r0, r1, r2, r3, r4, t0, t2, t4]
    exact fin _ (Keeps.set5 _ _ _ _ _ _ _)
  · have hz0 : (ba wd).toList = wd := by rw [ByteArray.toList_eq]; exact bl_ba wd
    have hz : (ba wd).toList.isEmpty = false := by rw [hz0]; cases wd with
      | nil => exact absurd rfl hwd
      | cons a b => rfl
    clear hz0
    go_wp2
    simp [bodyPost, results, Tryz.results110, go_sem, r0, r1, r2, r3, r4, t0, t2, t4]
    exact fin _ (Keeps.set5 _ _ _ _ _ _ _)
end Go.Proofs.YtlomjbfhalmalaaGreatDoor.C
set_option linter.unusedVariables false
set_option linter.unusedSimpArgs false
namespace Go.Proofs.YtlomjbfhalmalaaGreatDoor.C
open Go Go.RowKit Go.Shelf Go.Proofs.YtlomjbfhalmalaaGreatDoor.M Go.Proofs.YtlomjbfhalmalaaGreatDoor.Z
def Box (w : World) (x b : Nat) : Prop := w.heap[x]? = some (.cells #[.pointer (some ⟨b, 0, none⟩)] 83 (0, 0))
theorem Box.c {w : World} {x b : Nat} (h : Box w x b) : w.cell? ⟨x, 0, none⟩ = some (.pointer (some ⟨b, 0, none⟩)) := cell_of_row _ _ _ _ _ _ h
set_option maxHeartbeats 4000000 in
set_option maxRecDepth 100000 in
theorem more1_end {w : World} {x b : Nat} {s : ByteArray} {p d : Nat} (hx : Box w x b) (h : Ps w b s p d) (hp : p = s.size) :
    Calls Tryz.prog 96 #[.pointer (some ⟨x, 0, none⟩)] w fun e w' => e = .returned (.bool false) ∧ Keeps none' w w' := by
  have c := hx.c
  have c0 := h.c0
  have c1 := h.c1
  have i0 : ¬ (p : Int) < (s.size : Int) := by omega
  go_enter Tryz.func96, Tryz.ntmps96
  go_wp2
  go_quiet (fail)
  go_wp2
  go_ret
  exact ⟨rfl, Keeps.drewN' _ _ _⟩
set_option maxHeartbeats 4000000 in
set_option maxRecDepth 100000 in
theorem more1_at {w : World} {x b : Nat} {s : ByteArray} {p d : Nat} (hx : Box w x b) (h : Ps w b s p d) (hp : p < s.size) {c : UInt8} (hc : s[p]'hp = c) {y : Bool} (hy : (c ≠ 124 ∧ c ≠ 41) ∧ y = true ∨ c = 41 ∧ y = false) :
    Calls Tryz.prog 96 #[.pointer (some ⟨x, 0, none⟩)] w fun e w' => e = .returned (.bool y) ∧ Keeps none' w w' := by
  have cx := hx.c
  have c0 := h.c0
  have c1 := h.c1
  have i0 : (p : Int) < (s.size : Int) := by omega
  have hcv : ((s[p]'hp).toNat : Int) = (c.toNat : Nat) := by rw [hc]
  have u1 : (124 : UInt8).toNat = 124 := rfl
  have u2 : (41 : UInt8).toNat = 41 := rfl
  rcases hy with ⟨⟨h1, h2⟩, rfl⟩ | ⟨rfl, rfl⟩
  · have q1 : (((c.toNat : Nat) : Int) == 124) = false := beq_eq_false_iff_ne.2 (fun e => h1 (UInt8.toNat_inj.1 (by omega)))
    have q2 : (((c.toNat : Nat) : Int) == 41) = false := beq_eq_false_iff_ne.2 (fun e => h2 (UInt8.toNat_inj.1 (by omega)))
    have q3 : (((c.toNat : Nat) : Int) != 124) = true := by simp only [bne, q1, Bool.not_false]
    have q4 : (((c.toNat : Nat) : Int) != 41) = true := by simp only [bne, q2, Bool.not_false]
    go_enter Tryz.func96, Tryz.ntmps96
    go_wp2
    go_quiet (fail)
    go_wp2
    go_ret
    exact ⟨rfl, Keeps.drewN' _ _ _⟩
  · have hcv : ((s[p]'hp).toNat : Int) = 41 := by rw [hc]; rfl
    go_enter Tryz.func96, Tryz.ntmps96
    go_wp2
    go_quiet (fail)
    go_wp2
    go_ret
    exact ⟨rfl, Keeps.drewN' _ _ _⟩
set_option maxHeartbeats 4000000 in
set_option maxRecDepth 100000 in
theorem more2_no {w : World} {x b : Nat} {s : ByteArray} {p d : Nat} (hx : Box w x b) (h : Ps w b s p d) (hp : p ≤ s.size) (hs : s.size ≤ 140737488351232) (hn : Lib.hasPrefix ((bl s).drop p) [124] = false) :
    Calls Tryz.prog 74 #[.pointer (some ⟨x, 0, none⟩)] w fun e w' => e = .returned (.bool false) ∧ Keeps none' w w' := by
  have cx := hx.c
  have cR := rest_any h hp hs
  have cP1 := fun (W : World) => Tryz.strings_HasPrefix (s.extract p s.size) ⟨#[124]⟩ W
  have ex : (s.extract p s.size).data.toList = (bl s).drop p := bl_extract s p
  rw [ex, show (⟨#[124]⟩ : ByteArray).data.toList = [124] from rfl, hn] at cP1
  go_enter Tryz.func74, Tryz.ntmps74
  go_wp2_with fail
  refine cR.mono ?_
  rintro e w1 ⟨rfl, hk⟩
  go_wp2_with fail
  refine (cP1 _).mono ?_
  rintro e w2 ⟨rfl, rfl⟩
  go_wp2
  go_ret
  exact ⟨rfl, hk⟩
end Go.Proofs.YtlomjbfhalmalaaGreatDoor.C
set_option linter.unusedVariables false
set_option linter.unusedSimpArgs false
namespace Go.Proofs.YtlomjbfhalmalaaGreatDoor.C
open Go Go.RowKit Go.Shelf Go.Proofs.YtlomjbfhalmalaaGreatDoor.M Go.Proofs.YtlomjbfhalmalaaGreatDoor.Z Go.Proofs.YtlomjbfhalmalaaGreatDoorW.PrintWords Go.Proofs.YtlomjbfhalmalaaGreatDoorW.PrintLast Go.Proofs.YtlomjbfhalmalaaGreatDoorW.PrintMore
attribute [local go_sem] max2_int min2_int max_two min_two
attribute [local go_sem] max2_int min2_int max_two min_two
theorem signs_any' (w : World) :
    Calls Tryz.prog 109 #[] w fun e w' => e = .returned (.map (some w.heap.size)) ∧ w'.heap[w.heap.size]? = some (.map (sg 7).toArray 7) ∧ Keeps none' w w' :=
  (signs_any w).mono fun e w' ⟨h1, h2⟩ => by subst h2; exact ⟨h1, sgW_map w, sgW_keeps w⟩
abbrev leafV (K : Int) (wd : List UInt8) : Value := .agg #[.int .i64 K, .string (ba wd), .string ⟨#[]⟩, .int .i64 0, .slice none 0 0]
structure LeafAt (s : ByteArray) (q p' : Nat) (K : Int) (wd pt : List UInt8) (n f : Nat) (st : Bool) : Prop where
  hq : q < s.size
  term : termF ((bl s).drop q) q [] [] 0 0 false = (p', wd, pt, n, f, st)
  h1 : Lib.hasPrefix ((bl s).drop p') [126] = false
  h2 : dots ((bl s).drop p') = false
  h0 : dots ((bl s).drop q) = false
  hK : n = 0 ∧ K = 1 ∨ n = 1 ∧ st = true ∧ wd ≠ [] ∧ K = 2
  key : Instr.findNow .string (.string (s.extract q (q + 1))) (sg 7) 0 = some none
set_option maxHeartbeats 4000000 in
set_option maxRecDepth 100000 in
theorem one_leaf {w : World} {b : Nat} {s : ByteArray} {p d : Nat} (h : Ps w b s p d) (hT' : hT w) (hF : Far b) (hp : p ≤ s.size) (hs : s.size ≤ 140737488351232) (ha : ∀ c ∈ bl s, c.toNat < 128 ∧ c ≠ 92)
    {q p' : Nat} {K : Int} {wd pt : List UInt8} {n f : Nat} {st : Bool} (hq : s.size - (((bl s).drop p).dropWhile blk).length = q) (hL : LeafAt s q p' K wd pt n f st) :
    Calls Tryz.prog 95 #[.pointer (some ⟨b, 0, none⟩)] w fun e w' => e = .returned (leafV K wd) ∧ Ps w' b s p' d ∧ p' ≤ s.size ∧ Keeps (fun k => k = b) w w' := by
  have hb := h.lt
  have kA : Keeps none' w (w.alloc (.cells #[.int .i64 0, .string ⟨#[]⟩, .string ⟨#[]⟩, .int .i64 0, .slice none 0 0] 24)) := Keeps.alloc _ _ _
  have cB := blanks_any (h.keeps kA (fun h => h)) hp hs hq
  have hqs := hL.hq
  have cP2 := fun (W : World) => Tryz.strings_HasPrefix (s.extract q s.size) ⟨#[46, 46]⟩ W
  have ex : (s.extract q s.size).data.toList = (bl s).drop q := bl_extract s q
  rw [ex, show (⟨#[46, 46]⟩ : ByteArray).data.toList = [46, 46] from rfl, show Lib.hasPrefix ((bl s).drop q) [46, 46] = false from hL.h0] at cP2
  go_enter Tryz.func95, Tryz.ntmps95
  go_wp2_with fail
  refine cB.mono ?_
  rintro e w1 ⟨rfl, hP1, hk1⟩
  go_wp2_with fail
  refine (rest_any hP1 (by omega) hs).mono ?_
  rintro e w2 ⟨rfl, hk2⟩
  have hP2 := hP1.keeps hk2 (fun h => h)
  go_wp2_with fail
  refine (cP2 _).mono ?_
  rintro e w3 ⟨rfl, rfl⟩
  have c0 := hP2.c0
  have c1 := hP2.c1
  have i1 : (q : Int) + 1 ≤ (s.size : Int) := by omega
  have i2 : (q : Int) ≤ (q : Int) + 1 := by omega
  have i3 : (0 : Int) ≤ (q : Int) + 1 := by omega
  have e1 : IntKind.i64.wrap ((q : Int) + 1) = (q : Int) + 1 := by rw [wrap_in (by omega) (by omega)]
  have hmin : min ((q : Int) + 1) (s.size : Int) = (q : Int) + 1 := by omega
  have hmin2 : ¬ (s.size : Int) < (q : Int) + 1 := by omega
  have hmin3 : (q : Int) + 1 ≤ (s.size : Int) := by omega
  have hmin4 : ¬ s.size < q + 1 := by omega
  have hmin5 : q + 1 ≤ s.size := by omega
  have kd := keepP hP2
  have k0 : Keeps none' w3 w3.drew := Keeps.drew _ _
  have hkey := hL.key
  go_wp2
  first
  | fail
  | (go_region_held3 (fun W => W.cell? ⟨b, 0, none⟩ = some (.string s) ∧ W.cell? ⟨b, 1, none⟩ = some (.int .i64 (q : Nat)) ∧ Keeps none' w3 W) (first | exact kd _ k0 | exact kd _ (by assumption))
      (first | (go_at_call 109; refine (signs_any' _).mono ?_; rintro e w4 ⟨rfl, hm, hk4⟩; have hm' : w4.heap[w3.heap.size]? = _ := hm; obtain ⟨z, hz⟩ := look_miss hm' hkey; have k4 : Keeps none' w3 w4 := k0.trans hk4 (fun _ _ h => h)) | (go_simp; rw [if_neg (Int.not_lt.2 i1)])))
  all_goals
    have hP4 := hP2.keeps k4 (fun h => h)
    have kw := (((kA.mono (Z' := fun k => k = b) (fun _ _ h => h.elim)).trans hk1 (fun _ _ h => h)).trans hk2 (fun _ _ h => h.elim)).trans k4 (fun _ _ h => h.elim)
    have br : w4.heap[w.heap.size]? = some (.cells #[.int .i64 0, .string ⟨#[]⟩, .string ⟨#[]⟩, .int .i64 0, .slice none 0 0] 24 (0, 0)) := k4.obj (hk2.obj (hk1.obj (heap_alloc_new w _) (by omega)) (fun h => h)) (fun h => h)
    go_wp2_with fail
    refine (leaf_any hP4 (hT_keeps hT' kw hF.1 hF.2) hF (by omega) hs ha hL.term hL.h1 hL.h2 hL.hK).mono ?_
    rintro e w5 ⟨rfl, hP5, hp5, hk5⟩
    have br5 := hk5.obj br (by omega)
    have kw5 := kw.trans hk5 (fun _ _ h => h)
    have r0 : w5.cell? ⟨w.heap.size, 0, none⟩ = some (.int .i64 0) := cell_of_row _ _ _ _ _ _ br5
    have r1 : w5.cell? ⟨w.heap.size, 1, none⟩ = some (.string ⟨#[]⟩) := cell_of_row _ _ _ _ _ _ br5
    have r2 : w5.cell? ⟨w.heap.size, 2, none⟩ = some (.string ⟨#[]⟩) := cell_of_row _ _ _ _ _ _ br5
    have r3 : w5.cell? ⟨w.heap.size, 3, none⟩ = some (.int .i64 0) := cell_of_row _ _ _ _ _ _ br5
    have r4 : w5.cell? ⟨w.heap.size, 4, none⟩ = some (.slice none 0 0) := cell_of_row _ _ _ _ _ _ br5
    have g0 := frozen_cells br5 0
    have g1 := frozen_cells br5 1
    have g2 := frozen_cells br5 2
    have g3 := frozen_cells br5 3
    have g4 := frozen_cells br5 4
    have fin : ∀ W, Keeps (fun k => k = w.heap.size) w5 W → Ps W b s p' d ∧ p' ≤ s.size ∧ Keeps (fun k => k = b) w W := fun W hk => ⟨hP5.keeps hk (by omega), hp5, kw5.trans hk (fun i hi e => by omega)⟩
    clear hk5 kw5 br5 kw br hk1 hk2
    go_wp2
    simp [bodyPost, results, Tryz.results95, go_sem, r0, r1, r2, r3, r4]
    exact fin _ (Keeps.set5 _ _ _ _ _ _ _)
end Go.Proofs.YtlomjbfhalmalaaGreatDoor.C
set_option linter.unusedVariables false
set_option linter.unusedSimpArgs false
namespace Go.Proofs.YtlomjbfhalmalaaGreatDoor.C
open Go Go.RowKit Go.Shelf Go.Proofs.YtlomjbfhalmalaaGreatDoor.M Go.Proofs.YtlomjbfhalmalaaGreatDoor.Z Go.Proofs.YtlomjbfhalmalaaGreatDoorW.PrintWords Go.Proofs.YtlomjbfhalmalaaGreatDoorW.PrintLast Go.Proofs.YtlomjbfhalmalaaGreatDoorW.PrintMore
attribute [local go_sem] max2_int min2_int max_two min_two
abbrev leafC (K : Int) (wd : List UInt8) : Array Value := #[.int .i64 K, .string (ba wd), .string ⟨#[]⟩, .int .i64 0, .slice none 0 0]
abbrev notV (g : Nat) : Value := .agg #[.int .i64 9, .string ⟨#[]⟩, .string ⟨#[]⟩, .int .i64 0, .slice (some ⟨g, 0, none⟩) 1 1]
set_option maxHeartbeats 4000000 in
set_option maxRecDepth 100000 in
attribute [local go_sem] max2_int min2_int max_two min_two
theorem not_leaf {w : World} {b : Nat} {s : ByteArray} {p d : Nat} (h : Ps w b s p d) (hT' : hT w) (hF : Far b) (hp : p < s.size) (hd : d < 64) (hs : s.size ≤ 140737488351232) (ha : ∀ c ∈ bl s, c.toNat < 128 ∧ c ≠ 92)
    {q p' : Nat} {K : Int} {wd pt : List UInt8} {n f : Nat} {st : Bool} (hq : s.size - (((bl s).drop (p + 1)).dropWhile blk).length = q) (hL : LeafAt s q p' K wd pt n f st) :
    Calls Tryz.prog 118 #[.pointer (some ⟨b, 0, none⟩)] w fun e w' => ∃ g, e = .returned (notV g) ∧ w.heap.size ≤ g ∧ w'.heap[g]? = some (.cells (leafC K wd) 24 (0, 0)) ∧ Ps w' b s p' d ∧ p' ≤ s.size ∧ Keeps (fun k => k = b) w w' := by
  have hb := h.lt
  have kA : Keeps none' w (w.alloc (.cells #[.int .i64 0, .string ⟨#[]⟩, .string ⟨#[]⟩, .int .i64 0, .slice none 0 0] 24)) := Keeps.alloc _ _ _
  have cE := enter_any (h.keeps kA (fun h => h)) hp hs hd
  go_enter_defers Tryz.func118, Tryz.ntmps118
  go_wp2_with fail
  refine cE.mono ?_
  rintro e w1 ⟨rfl, hP1, hk1⟩
  have kw1 := (kA.mono (Z' := fun k => k = b) (fun _ _ h => h.elim)).trans hk1 (fun _ _ h => h)
  go_wp2_with fail
  refine (one_leaf hP1 (hT_keeps hT' kw1 hF.1 hF.2) hF hp hs ha hq hL).mono ?_
  rintro e w2 ⟨rfl, hP2, hp2, hk2⟩
  have kw2 := kw1.trans hk2 (fun _ _ h => h)
  have br : w2.heap[w.heap.size]? = some (.cells #[.int .i64 0, .string ⟨#[]⟩, .string ⟨#[]⟩, .int .i64 0, .slice none 0 0] 24 (0, 0)) := hk2.obj (hk1.obj (heap_alloc_new w _) (by omega)) (by omega)
  have kB : Keeps none' w2 (w2.alloc (.cells (leafC K wd) 24)) := Keeps.alloc _ _ _
  have bg := heap_alloc_new w2 (.cells (leafC K wd) 24)
  have br3 := kB.obj br (fun h => h)
  have hP3 := hP2.keeps kB (fun h => h)
  have kw3 := kw2.trans kB (fun _ _ h => h.elim)
  have hg : w.heap.size < w2.heap.size := lt_of_obj br
  obtain ⟨w3, hw3⟩ : ∃ w3, w2.alloc (.cells (leafC K wd) 24) = w3 := ⟨_, rfl⟩
  obtain ⟨g, hgg⟩ : ∃ g, w2.heap.size = g := ⟨_, rfl⟩
  rw [hw3] at br3 hP3 kw3 bg
  rw [hgg] at bg hg
  have r0 : w3.cell? ⟨w.heap.size, 0, none⟩ = some (.int .i64 0) := cell_of_row _ _ _ _ _ _ br3
  have r1 : w3.cell? ⟨w.heap.size, 1, none⟩ = some (.string ⟨#[]⟩) := cell_of_row _ _ _ _ _ _ br3
  have r2 : w3.cell? ⟨w.heap.size, 2, none⟩ = some (.string ⟨#[]⟩) := cell_of_row _ _ _ _ _ _ br3
  have r3 : w3.cell? ⟨w.heap.size, 3, none⟩ = some (.int .i64 0) := cell_of_row _ _ _ _ _ _ br3
  have r4 : w3.cell? ⟨w.heap.size, 4, none⟩ = some (.slice none 0 0) := cell_of_row _ _ _ _ _ _ br3
  have g0 := frozen_cells br3 0
  have g1 := frozen_cells br3 1
  have g2 := frozen_cells br3 2
  have g3 := frozen_cells br3 3
  have g4 := frozen_cells br3 4
  have fin : ∀ W, Keeps (fun k => k = w.heap.size) w3 W → Ps W b s p' (d + 1) ∧ W.heap[g]? = some (.cells (leafC K wd) 24 (0, 0)) ∧ Keeps (fun k => k = b) w W := fun W hk => ⟨hP3.keeps hk (by omega), hk.obj bg (by omega), kw3.trans hk (fun i hi e => by omega)⟩
  have bz := cell_modify (cell_modify (cell_modify (cell_modify (cell_modify br3 0 (.int .i64 9)) 1 (.string ⟨#[]⟩)) 2 (.string ⟨#[]⟩)) 3 (.int .i64 0)) 4 (.slice (some ⟨g, 0, none⟩) 1 1)
  have hz := fin _ (Keeps.set5 w3 w.heap.size (.int .i64 9) (.string ⟨#[]⟩) (.string ⟨#[]⟩) (.int .i64 0) (.slice (some ⟨g, 0, none⟩) 1 1))
  clear kw3 hP3 kw2 hk2 kw1 hk1 kA cE br br3 kB hP2 bg hP1
  go_wp2
  refine leaves_cons (f := 128) (args := #[.pointer (some ⟨b, 0, none⟩)]) (by simp) (by simp [go_sem]) ?_
  refine (leave_any hz.1 hd .returning).mono ?_
  rintro e u w6 ⟨rfl, rfl, hP6, hk6⟩
  have b6 := hk6.obj bz (by omega)
  have s0 : w6.cell? ⟨w.heap.size, 0, none⟩ = some (.int .i64 9) := cell_of_row _ _ _ _ _ _ b6
  have s1 : w6.cell? ⟨w.heap.size, 1, none⟩ = some (.string ⟨#[]⟩) := cell_of_row _ _ _ _ _ _ b6
  have s2 : w6.cell? ⟨w.heap.size, 2, none⟩ = some (.string ⟨#[]⟩) := cell_of_row _ _ _ _ _ _ b6
  have s3 : w6.cell? ⟨w.heap.size, 3, none⟩ = some (.int .i64 0) := cell_of_row _ _ _ _ _ _ b6
  have s4 : w6.cell? ⟨w.heap.size, 4, none⟩ = some (.slice (some ⟨g, 0, none⟩) 1 1) := cell_of_row _ _ _ _ _ _ b6
  simp [Leaves, settle, results, Tryz.results118, go_sem, s0, s1, s2, s3, s4]
  exact ⟨by omega, hk6.obj hz.2.1 (by omega), hP6, hp2, hz.2.2.trans hk6 (fun _ _ h => h)⟩
set_option maxHeartbeats 4000000 in
set_option maxRecDepth 100000 in
theorem one_not {w : World} {b : Nat} {s : ByteArray} {p d : Nat} (h : Ps w b s p d) (hT' : hT w) (hF : Far b) (hp : p ≤ s.size) (hs : s.size ≤ 140737488351232) (ha : ∀ c ∈ bl s, c.toNat < 128 ∧ c ≠ 92)
    {q q' p' : Nat} {K : Int} {wd pt : List UInt8} {n f : Nat} {st : Bool} (hq : s.size - (((bl s).drop p).dropWhile blk).length = q) (hqs : q < s.size) (h0 : dots ((bl s).drop q) = false) (hkey : Instr.findNow .string (.string (s.extract q (q + 1))) (sg 7) 0 = some (some (0, .func (.func 118) #[] #[]))) (hd : d < 64)
    (hq' : s.size - (((bl s).drop (q + 1)).dropWhile blk).length = q') (hL : LeafAt s q' p' K wd pt n f st) :
    Calls Tryz.prog 95 #[.pointer (some ⟨b, 0, none⟩)] w fun e w' => ∃ g, e = .returned (notV g) ∧ w.heap.size ≤ g ∧ w'.heap[g]? = some (.cells (leafC K wd) 24 (0, 0)) ∧ Ps w' b s p' d ∧ p' ≤ s.size ∧ Keeps (fun k => k = b) w w' := by
  have hb := h.lt
  have kA : Keeps none' w (w.alloc (.cells #[.int .i64 0, .string ⟨#[]⟩, .string ⟨#[]⟩, .int .i64 0, .slice none 0 0] 24)) := Keeps.alloc _ _ _
  have cB := blanks_any (h.keeps kA (fun h => h)) hp hs hq
  have cP2 := fun (W : World) => Tryz.strings_HasPrefix (s.extract q s.size) ⟨#[46, 46]⟩ W
  have ex : (s.extract q s.size).data.toList = (bl s).drop q := bl_extract s q
  rw [ex, show (⟨#[46, 46]⟩ : ByteArray).data.toList = [46, 46] from rfl, show Lib.hasPrefix ((bl s).drop q) [46, 46] = false from h0] at cP2
  go_enter Tryz.func95, Tryz.ntmps95
  go_wp2_with fail
  refine cB.mono ?_
  rintro e w1 ⟨rfl, hP1, hk1⟩
  go_wp2_with fail
  refine (rest_any hP1 (by omega) hs).mono ?_
  rintro e w2 ⟨rfl, hk2⟩
  have hP2 := hP1.keeps hk2 (fun h => h)
  go_wp2_with fail
  refine (cP2 _).mono ?_
  rintro e w3 ⟨rfl, rfl⟩
  have c0 := hP2.c0
  have c1 := hP2.c1
  have i1 : (q : Int) + 1 ≤ (s.size : Int) := by omega
  have i2 : (q : Int) ≤ (q : Int) + 1 := by omega
  have i3 : (0 : Int) ≤ (q : Int) + 1 := by omega
  have e1 : IntKind.i64.wrap ((q : Int) + 1) = (q : Int) + 1 := by rw [wrap_in (by omega) (by omega)]
  have hmin : min ((q : Int) + 1) (s.size : Int) = (q : Int) + 1 := by omega
  have hmin2 : ¬ (s.size : Int) < (q : Int) + 1 := by omega
  have hmin3 : (q : Int) + 1 ≤ (s.size : Int) := by omega
  have hmin4 : ¬ s.size < q + 1 := by omega
  have hmin5 : q + 1 ≤ s.size := by omega
  have kd := keepP hP2
  have k0 : Keeps none' w3 w3.drew := Keeps.drew _ _
  go_wp2
  first
  | fail
  | (go_region_held3 (fun W => W.cell? ⟨b, 0, none⟩ = some (.string s) ∧ W.cell? ⟨b, 1, none⟩ = some (.int .i64 (q : Nat)) ∧ Keeps none' w3 W) (first | exact kd _ k0 | exact kd _ (by assumption))
      (first | (go_at_call 109; refine (signs_any' _).mono ?_; rintro e w4 ⟨rfl, hm, hk4⟩; have hm' : w4.heap[w3.heap.size]? = _ := hm; have hz := look_hit hm' hkey; have k4 : Keeps none' w3 w4 := k0.trans hk4 (fun _ _ h => h)) | (go_simp; rw [if_neg (Int.not_lt.2 i1)])))
  all_goals
    have hP4 := hP2.keeps k4 (fun h => h)
    have kw := (((kA.mono (Z' := fun k => k = b) (fun _ _ h => h.elim)).trans hk1 (fun _ _ h => h)).trans hk2 (fun _ _ h => h.elim)).trans k4 (fun _ _ h => h.elim)
    have br : w4.heap[w.heap.size]? = some (.cells #[.int .i64 0, .string ⟨#[]⟩, .string ⟨#[]⟩, .int .i64 0, .slice none 0 0] 24 (0, 0)) := k4.obj (hk2.obj (hk1.obj (heap_alloc_new w _) (by omega)) (fun h => h)) (fun h => h)
    go_wp2_with fail
    refine (not_leaf hP4 (hT_keeps hT' kw hF.1 hF.2) hF hqs hd hs ha hq' hL).mono ?_
    rintro e w5 ⟨g, rfl, hgl, hgb, hP5, hp5, hk5⟩
    have br5 := hk5.obj br (by omega)
    have kw5 := kw.trans hk5 (fun _ _ h => h)
    have hlt : w.heap.size < w4.heap.size := lt_of_obj br
    have r0 : w5.cell? ⟨w.heap.size, 0, none⟩ = some (.int .i64 0) := cell_of_row _ _ _ _ _ _ br5
    have r1 : w5.cell? ⟨w.heap.size, 1, none⟩ = some (.string ⟨#[]⟩) := cell_of_row _ _ _ _ _ _ br5
    have r2 : w5.cell? ⟨w.heap.size, 2, none⟩ = some (.string ⟨#[]⟩) := cell_of_row _ _ _ _ _ _ br5
    have r3 : w5.cell? ⟨w.heap.size, 3, none⟩ = some (.int .i64 0) := cell_of_row _ _ _ _ _ _ br5
    have r4 : w5.cell? ⟨w.heap.size, 4, none⟩ = some (.slice none 0 0) := cell_of_row _ _ _ _ _ _ br5
    have g0 := frozen_cells br5 0
    have g1 := frozen_cells br5 1
    have g2 := frozen_cells br5 2
    have g3 := frozen_cells br5 3
    have g4 := frozen_cells br5 4
    have fin : ∀ W, Keeps (fun k => k = w.heap.size) w5 W → w.heap.size ≤ g ∧ W.heap[g]? = some (.cells (leafC K wd) 24 (0, 0)) ∧ Ps W b s p' d ∧ p' ≤ s.size ∧ Keeps (fun k => k = b) w W := fun W hk => ⟨by omega, hk.obj hgb (by omega), hP5.keeps hk (by omega), hp5, kw5.trans hk (fun i hi e => by omega)⟩
    clear hk5 kw5 br5 kw br hk1 hk2
    go_wp2
    simp [bodyPost, results, Tryz.results95, go_sem, r0, r1, r2, r3, r4]
    exact fin _ (Keeps.set5 _ _ _ _ _ _ _)
end Go.Proofs.YtlomjbfhalmalaaGreatDoor.C
