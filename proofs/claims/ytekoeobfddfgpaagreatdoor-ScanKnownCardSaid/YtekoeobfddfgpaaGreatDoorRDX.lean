/-
  Of this seat's texts what the claim wants (printed by a program): DX.
-/
import Derived.Test.YtekoeobfddfgpaaGreatDoorRD7
import Derived.Test.YtekoeobfddfgpaaGreatDoorRD8
import Derived.Test.YtekoeobfddfgpaaGreatDoorRD9
import Derived.LoopN
import Derived.Handy
import Derived.WalkMore
import Derived.Test.YtekoeobfddfgpaaGreatDoorRSS
set_option linter.unusedVariables false
set_option linter.unusedSimpArgs false
namespace Go.Proofs.YtekoeobfddfgpaaGreatDoor.C
open Go Go.RowKit Go.Shelf Go.Proofs.YtekoeobfddfgpaaGreatDoor.M Go.Proofs.YtekoeobfddfgpaaGreatDoor.Z
def scopeIn : Code → Option Code
  | .scope c => some c
  | .seq a b => match scopeIn a with
    | some c => some c
    | none => scopeIn b
  | .block _ c => scopeIn c
  | _ => none
noncomputable def allScope : Code := (Tryz.f21.body.bind scopeIn).getD .skip
def tokV (l : List UInt8) (x : Nat × List UInt8 × List UInt8) : List Value := tokC (x.1 : Nat) (ba x.2.1) (place l x.2.2).1 (place l x.2.2).2 (l.length - x.2.2.length)
def flatT (l : List UInt8) (xs : List (Nat × List UInt8 × List UInt8)) : List Value := xs.flatMap (tokV l)
structure AL (w : World) (B b : Nat) (s : ByteArray) (W : World) (t : List UInt8) (done : List (Nat × List UInt8 × List UInt8)) (p ln cl : Nat) (v : Value) : Prop where
  sc : Sc W B b s p ln cl v done.length (flatT (bl s) done)
  dt : (bl s).drop p = t
  ch : Ch (bl s) t
  pl : place (bl s) t = (ln, cl)
  sm : scanM (bl s) = (done ++ (scanM t).1, (scanM t).2)
  dn : done.length ≤ p
  bel : Below B w W
def aFr (b : Nat) (g : Nat → Value) : Array Value := #[.pointer (some ⟨b, 0, none⟩), g 1, g 2, g 3, g 4, g 5, g 6, g 7, g 8, g 9, g 10, g 11, g 12, g 13, g 14, g 15, g 16, g 17, g 18, g 19, g 20, g 21, g 22, g 23, g 24, g 25, g 26, g 27, g 28, g 29, g 30, g 31, g 32, g 33, g 34, g 35, g 36, g 37, g 38, g 39, g 40, g 41, g 42, g 43, g 44, g 45, g 46, g 47, g 48, g 49, g 50, g 51, g 52, g 53, g 54, g 55, g 56, g 57, g 58, g 59, g 60, g 61, g 62, g 63, g 64, g 65, g 66, g 67, g 68, g 69, g 70, g 71, g 72, g 73, g 74, g 75, g 76, g 77, g 78, g 79, g 80, g 81, g 82, g 83, g 84, g 85, g 86, g 87, g 88, g 89, g 90, g 91, g 92, g 93, g 94, g 95, g 96, g 97]
def firstReg : Code → Option Nat
  | .region i _ _ => some i
  | .seq a _ => firstReg a
  | .block _ c => firstReg c
  | .loop c => firstReg c
  | .scope c => firstReg c
  | _ => none
def sufAt (n : Nat) : Code → Option Code
  | .region i o d => if i == n then some (.region i o d) else none
  | .seq a b => if firstReg a == some n then some (.seq a b) else match sufAt n a with
    | some c => some c
    | none => sufAt n b
  | .cond _ a b => match sufAt n a with
    | some c => some c
    | none => sufAt n b
  | .block _ c => sufAt n c
  | .loop c => sufAt n c
  | .rangeFunc _ _ _ c => sufAt n c
  | .scope c => sufAt n c
  | _ => none
noncomputable def allX (n : Nat) : Code := (sufAt n allScope).getD .skip
def kFr (b : Nat) (d : Nat) (g : Nat → Value) : Array Value := #[.pointer (some ⟨b, 0, none⟩), g 1, g 2, g 3, g 4, g 5, .int .i32 (d : Nat), g 7, g 8, g 9, g 10, g 11, g 12, g 13, g 14, g 15, g 16, g 17, g 18, g 19, g 20, g 21, g 22, g 23, g 24, g 25, g 26, g 27, g 28, g 29, g 30, g 31, g 32, g 33, g 34, g 35, g 36, g 37, g 38, g 39, g 40, g 41, g 42, g 43, g 44, g 45, g 46, g 47, g 48, g 49, g 50, g 51, g 52, g 53, g 54, g 55, g 56, g 57, g 58, g 59, g 60, g 61, g 62, g 63, g 64, g 65, g 66, g 67, g 68, g 69, g 70, g 71, g 72, g 73, g 74, g 75, g 76, g 77, g 78, g 79, g 80, g 81, g 82, g 83, g 84, g 85, g 86, g 87, g 88, g 89, g 90, g 91, g 92, g 93, g 94, g 95, g 96, g 97]
def LabOK : Nat → List UInt8 → Prop
  | 1, u => ∃ r, u = 35 :: r
  | 2, u => ∃ r, u = 91 :: r
  | 3, u => ∃ c r, u = c :: r ∧ (c = 38 ∨ c = 60 ∨ c = 61 ∨ c = 47 ∨ c = 45)
  | 4, u => ∃ c r, u = c :: r ∧ blk c = false ∧ c ≠ 35 ∧ c ≠ 91 ∧ c ≠ 93 ∧ c ≠ 42 ∧ ¬ (c = 38 ∨ c = 60 ∨ c = 61 ∨ c = 47 ∨ c = 45)
  | _, _ => False
def AllP (w : World) (B b : Nat) (s : ByteArray) (x : Value) (W' : World) : Prop :=
  ((scanM (bl s)).2 = none → x = .nilIface ∧ ∃ p ln cl v, Sc W' B b s p ln cl v (scanM (bl s)).1.length (flatT (bl s) (scanM (bl s)).1)) ∧
  (∀ no u, (scanM (bl s)).2 = some (no, u) → x = Go.Proofs.YtekoeobfddfgpaaGreatDoor.E.flt (no : Nat) (place (bl s) u).1 (place (bl s) u).2) ∧ Below B w W'
theorem dc_eq {c k : UInt8} (r : List UInt8) (hk : k.toNat < 128) (h : c = k) : (((dc (c :: r) : Nat) : Int) == (k.toNat : Int)) = true := by
  subst h
  have := (b0_unit (l := c :: r) (by simp) hk).2
  rw [this]; simp [b0]
theorem dc_ne {c k : UInt8} (r : List UInt8) (hk : k.toNat < 128) (h : c ≠ k) : (((dc (c :: r) : Nat) : Int) == (k.toNat : Int)) = false := by
  simp only [beq_eq_false_iff_ne, ne_eq]
  intro e
  have e : dc (c :: r) = k.toNat := by omega
  have f := d_facts (l := c :: r) (by simp)
  rcases Nat.lt_or_ge (b0 (c :: r)) 128 with hlt | hge
  · have := (b0_unit (l := c :: r) (by simp) hlt).2
    rw [this] at e
    exact h (UInt8.toNat_inj.1 e)
  · rcases Nat.lt_or_ge (dw (c :: r)) 2 with h2 | h2
    · have := f.2.2.2.2.1 (by omega); omega
    · have := (f.2.2.2.2.2.1 h2).2; omega
theorem AL.fault {w W W' : World} {B b : Nat} {s : ByteArray} {u : List UInt8} {done : List (Nat × List UInt8 × List UInt8)} {p ln cl : Nat} {v : Value} (h : AL w B b s W u done p ln cl v) (hne : past u = u) {c : UInt8} {r : List UInt8} (hu : u = c :: r) {no k : Nat} (ho : oneM u = .bad no k) (hk : Keeps (fun k => k = b) W W') :
    AllP w B b s (Go.Proofs.YtekoeobfddfgpaaGreatDoor.E.flt (no : Nat) (place (bl s) (u.drop k)).1 (place (bl s) (u.drop k)).2) W' := by
  have h1 := scanM_bad (t := u) (by rw [hne, hu]; simp) (by rw [hne]; exact ho)
  have h2 : (scanM (bl s)).2 = some (no, u.drop k) := by rw [h.sm, h1, hne]
  refine ⟨fun e => (by rw [h2] at e; cases e), fun no' u' e => ?_, h.bel.trans (hk.below (Nat.le_trans h.sc.le (Nat.le_of_lt (lt_of_obj h.sc.blk))) (fun k e => by rw [e]; exact h.sc.le))⟩
  rw [h2] at e
  injection e with e
  injection e with e1 e2
  subst e1
  subst e2
  rfl
set_option maxHeartbeats 4000000 in
set_option maxRecDepth 100000 in
theorem all_switch {w W : World} {B b : Nat} {s : ByteArray} {u : List UInt8} {done : List (Nat × List UInt8 × List UInt8)} {p ln cl : Nat} {v : Value} {tm : Array Value} {Q : Exit → Act → World → Prop} (hA : AL w B b s W u done p ln cl v) {c : UInt8} {r : List UInt8} (hu : u = c :: r) (hb : blk c = false)
    (htm : tm = kFr b (dc u) (fun i => tm.getD i undef))
    (hret : ∀ a' W' x, a'.tmps = aFr b (fun i => a'.tmps.getD i undef) → a'.tmps.getD 2 undef = x → a'.defers = [] → AllP w B b s x W' → Q .ret a' W')
    (hgo : ∀ k a', a'.tmps = aFr b (fun i => a'.tmps.getD i undef) → a'.defers = [] → LabOK k u → Q (.goto k) a' W) :
    (allX 12).wp Tryz.prog Q { tmps := tm, defers := [] } W := by
  generalize (fun i => tm.getD i undef) = g at htm
  subst htm
  unfold kFr
  conv => arg 2; whnf
  have cF := fun no => fault_any hA.sc no
  have hpu : c ≠ 35 → past u = u := fun h => by
    rw [past_eq, hu, List.dropWhile_cons, hb]
    simp [h]
  by_cases h35 : c = 35
  · have t35 : (((dc u : Nat) : Int) == 35) = true := by rw [hu]; exact dc_eq (k := 35) r (by decide) h35
    have hok : Hid (LabOK 1 u) := Lib.hid (by rw [hu, h35]; exact ⟨r, rfl⟩)
    generalize dc u = d at *
    clear cF hpu hA
    go_wp2_with fail
    go_step3
    exact hgo 1 _ rfl rfl hok.out
  · have n35 : c ≠ 35 := h35
    by_cases h91 : c = 91
    · have t35 : (((dc u : Nat) : Int) == 35) = false := by rw [hu]; exact dc_ne (k := 35) r (by decide) n35
      have t91 : (((dc u : Nat) : Int) == 91) = true := by rw [hu]; exact dc_eq (k := 91) r (by decide) h91
      have hok : Hid (LabOK 2 u) := Lib.hid (by rw [hu, h91]; exact ⟨r, rfl⟩)
      generalize dc u = d at *
      clear cF hpu hA
      go_wp2_with fail
      go_step3
      exact hgo 2 _ rfl rfl hok.out
    · have n91 : c ≠ 91 := h91
      by_cases h93 : c = 93
      · have t35 : (((dc u : Nat) : Int) == 35) = false := by rw [hu]; exact dc_ne (k := 35) r (by decide) n35
        have t91 : (((dc u : Nat) : Int) == 91) = false := by rw [hu]; exact dc_ne (k := 91) r (by decide) n91
        have t93 : (((dc u : Nat) : Int) == 93) = true := by rw [hu]; exact dc_eq (k := 93) r (by decide) h93
        have ho : oneM u = .bad 25 0 := by rw [hu, h93]; rfl
        have hf := fun W' (hk : Keeps (fun k => k = b) W W') => hA.fault (hpu n35) hu ho hk
        have hpl := hA.pl
        rw [List.drop_zero, hpl] at hf
        have Hf := Lib.hid hf
        generalize dc u = d at *
        clear hf hpl hpu hA ho
        go_wp2_with fail
        refine (cF _).mono ?_
        rintro e w' ⟨rfl, q, rfl⟩
        go_wp2_with fail
        exact hret _ _ _ rfl rfl rfl (Hf.out _ (Keeps.drewN _ _ _))
      · have n93 : c ≠ 93 := h93
        by_cases h42 : c = 42
        · have t35 : (((dc u : Nat) : Int) == 35) = false := by rw [hu]; exact dc_ne (k := 35) r (by decide) n35
          have t91 : (((dc u : Nat) : Int) == 91) = false := by rw [hu]; exact dc_ne (k := 91) r (by decide) n91
          have t93 : (((dc u : Nat) : Int) == 93) = false := by rw [hu]; exact dc_ne (k := 93) r (by decide) n93
          have t42 : (((dc u : Nat) : Int) == 42) = true := by rw [hu]; exact dc_eq (k := 42) r (by decide) h42
          have ho : oneM u = .bad 4 0 := by rw [hu, h42]; rfl
          have hf := fun W' (hk : Keeps (fun k => k = b) W W') => hA.fault (hpu n35) hu ho hk
          have hpl := hA.pl
          rw [List.drop_zero, hpl] at hf
          have Hf := Lib.hid hf
          generalize dc u = d at *
          clear hf hpl hpu hA ho
          go_wp2_with fail
          refine (cF _).mono ?_
          rintro e w' ⟨rfl, q, rfl⟩
          go_wp2_with fail
          exact hret _ _ _ rfl rfl rfl (Hf.out _ (Keeps.drewN _ _ _))
        · have n42 : c ≠ 42 := h42
          by_cases h38 : c = 38
          · have t35 : (((dc u : Nat) : Int) == 35) = false := by rw [hu]; exact dc_ne (k := 35) r (by decide) n35
            have t91 : (((dc u : Nat) : Int) == 91) = false := by rw [hu]; exact dc_ne (k := 91) r (by decide) n91
            have t93 : (((dc u : Nat) : Int) == 93) = false := by rw [hu]; exact dc_ne (k := 93) r (by decide) n93
            have t42 : (((dc u : Nat) : Int) == 42) = false := by rw [hu]; exact dc_ne (k := 42) r (by decide) n42
            have t38 : (((dc u : Nat) : Int) == 38) = true := by rw [hu]; exact dc_eq (k := 38) r (by decide) h38
            have hok : Hid (LabOK 3 u) := Lib.hid ⟨c, r, hu, by simp [h38]⟩
            generalize dc u = d at *
            clear cF hpu hA
            go_wp2_with fail
            go_step3
            exact hgo 3 _ rfl rfl hok.out
          · have n38 : c ≠ 38 := h38
            by_cases h60 : c = 60
            · have t35 : (((dc u : Nat) : Int) == 35) = false := by rw [hu]; exact dc_ne (k := 35) r (by decide) n35
              have t91 : (((dc u : Nat) : Int) == 91) = false := by rw [hu]; exact dc_ne (k := 91) r (by decide) n91
              have t93 : (((dc u : Nat) : Int) == 93) = false := by rw [hu]; exact dc_ne (k := 93) r (by decide) n93
              have t42 : (((dc u : Nat) : Int) == 42) = false := by rw [hu]; exact dc_ne (k := 42) r (by decide) n42
              have t38 : (((dc u : Nat) : Int) == 38) = false := by rw [hu]; exact dc_ne (k := 38) r (by decide) n38
              have t60 : (((dc u : Nat) : Int) == 60) = true := by rw [hu]; exact dc_eq (k := 60) r (by decide) h60
              have hok : Hid (LabOK 3 u) := Lib.hid ⟨c, r, hu, by simp [h60]⟩
              generalize dc u = d at *
              clear cF hpu hA
              go_wp2_with fail
              go_step3
              exact hgo 3 _ rfl rfl hok.out
            · have n60 : c ≠ 60 := h60
              by_cases h61 : c = 61
              · have t35 : (((dc u : Nat) : Int) == 35) = false := by rw [hu]; exact dc_ne (k := 35) r (by decide) n35
                have t91 : (((dc u : Nat) : Int) == 91) = false := by rw [hu]; exact dc_ne (k := 91) r (by decide) n91
                have t93 : (((dc u : Nat) : Int) == 93) = false := by rw [hu]; exact dc_ne (k := 93) r (by decide) n93
                have t42 : (((dc u : Nat) : Int) == 42) = false := by rw [hu]; exact dc_ne (k := 42) r (by decide) n42
                have t38 : (((dc u : Nat) : Int) == 38) = false := by rw [hu]; exact dc_ne (k := 38) r (by decide) n38
                have t60 : (((dc u : Nat) : Int) == 60) = false := by rw [hu]; exact dc_ne (k := 60) r (by decide) n60
                have t61 : (((dc u : Nat) : Int) == 61) = true := by rw [hu]; exact dc_eq (k := 61) r (by decide) h61
                have hok : Hid (LabOK 3 u) := Lib.hid ⟨c, r, hu, by simp [h61]⟩
                generalize dc u = d at *
                clear cF hpu hA
                go_wp2_with fail
                go_step3
                exact hgo 3 _ rfl rfl hok.out
              · have n61 : c ≠ 61 := h61
                by_cases h47 : c = 47
                · have t35 : (((dc u : Nat) : Int) == 35) = false := by rw [hu]; exact dc_ne (k := 35) r (by decide) n35
                  have t91 : (((dc u : Nat) : Int) == 91) = false := by rw [hu]; exact dc_ne (k := 91) r (by decide) n91
                  have t93 : (((dc u : Nat) : Int) == 93) = false := by rw [hu]; exact dc_ne (k := 93) r (by decide) n93
                  have t42 : (((dc u : Nat) : Int) == 42) = false := by rw [hu]; exact dc_ne (k := 42) r (by decide) n42
                  have t38 : (((dc u : Nat) : Int) == 38) = false := by rw [hu]; exact dc_ne (k := 38) r (by decide) n38
                  have t60 : (((dc u : Nat) : Int) == 60) = false := by rw [hu]; exact dc_ne (k := 60) r (by decide) n60
                  have t61 : (((dc u : Nat) : Int) == 61) = false := by rw [hu]; exact dc_ne (k := 61) r (by decide) n61
                  have t47 : (((dc u : Nat) : Int) == 47) = true := by rw [hu]; exact dc_eq (k := 47) r (by decide) h47
                  have hok : Hid (LabOK 3 u) := Lib.hid ⟨c, r, hu, by simp [h47]⟩
                  generalize dc u = d at *
                  clear cF hpu hA
                  go_wp2_with fail
                  go_step3
                  exact hgo 3 _ rfl rfl hok.out
                · have n47 : c ≠ 47 := h47
                  by_cases h45 : c = 45
                  · have t35 : (((dc u : Nat) : Int) == 35) = false := by rw [hu]; exact dc_ne (k := 35) r (by decide) n35
                    have t91 : (((dc u : Nat) : Int) == 91) = false := by rw [hu]; exact dc_ne (k := 91) r (by decide) n91
                    have t93 : (((dc u : Nat) : Int) == 93) = false := by rw [hu]; exact dc_ne (k := 93) r (by decide) n93
                    have t42 : (((dc u : Nat) : Int) == 42) = false := by rw [hu]; exact dc_ne (k := 42) r (by decide) n42
                    have t38 : (((dc u : Nat) : Int) == 38) = false := by rw [hu]; exact dc_ne (k := 38) r (by decide) n38
                    have t60 : (((dc u : Nat) : Int) == 60) = false := by rw [hu]; exact dc_ne (k := 60) r (by decide) n60
                    have t61 : (((dc u : Nat) : Int) == 61) = false := by rw [hu]; exact dc_ne (k := 61) r (by decide) n61
                    have t47 : (((dc u : Nat) : Int) == 47) = false := by rw [hu]; exact dc_ne (k := 47) r (by decide) n47
                    have t45 : (((dc u : Nat) : Int) == 45) = true := by rw [hu]; exact dc_eq (k := 45) r (by decide) h45
                    have hok : Hid (LabOK 3 u) := Lib.hid ⟨c, r, hu, by simp [h45]⟩
                    generalize dc u = d at *
                    clear cF hpu hA
                    go_wp2_with fail
                    go_step3
                    exact hgo 3 _ rfl rfl hok.out
                  · have n45 : c ≠ 45 := h45
                    have t35 : (((dc u : Nat) : Int) == 35) = false := by rw [hu]; exact dc_ne (k := 35) r (by decide) n35
                    have t91 : (((dc u : Nat) : Int) == 91) = false := by rw [hu]; exact dc_ne (k := 91) r (by decide) n91
                    have t93 : (((dc u : Nat) : Int) == 93) = false := by rw [hu]; exact dc_ne (k := 93) r (by decide) n93
                    have t42 : (((dc u : Nat) : Int) == 42) = false := by rw [hu]; exact dc_ne (k := 42) r (by decide) n42
                    have t38 : (((dc u : Nat) : Int) == 38) = false := by rw [hu]; exact dc_ne (k := 38) r (by decide) n38
                    have t60 : (((dc u : Nat) : Int) == 60) = false := by rw [hu]; exact dc_ne (k := 60) r (by decide) n60
                    have t61 : (((dc u : Nat) : Int) == 61) = false := by rw [hu]; exact dc_ne (k := 61) r (by decide) n61
                    have t47 : (((dc u : Nat) : Int) == 47) = false := by rw [hu]; exact dc_ne (k := 47) r (by decide) n47
                    have t45 : (((dc u : Nat) : Int) == 45) = false := by rw [hu]; exact dc_ne (k := 45) r (by decide) n45
                    have hok : Hid (LabOK 4 u) := Lib.hid ⟨c, r, hu, hb, n35, n91, n93, n42, by simp [n38, n60, n61, n47, n45]⟩
                    generalize dc u = d at *
                    clear cF hpu hA
                    go_wp2_with fail
                    go_step3
                    exact hgo 4 _ rfl rfl hok.out
end Go.Proofs.YtekoeobfddfgpaaGreatDoor.C
set_option linter.unusedVariables false
set_option linter.unusedSimpArgs false
namespace Go.Proofs.YtekoeobfddfgpaaGreatDoor.C
open Go Go.RowKit Go.Shelf Go.Proofs.YtekoeobfddfgpaaGreatDoor.M Go.Proofs.YtekoeobfddfgpaaGreatDoor.Z
theorem w64i {x : Int} (h1 : -9223372036854775808 ≤ x) (h2 : x ≤ 9223372036854775807) : wrap64 x = x := by unfold wrap64; omega
theorem past_dw (t : List UInt8) : past (t.dropWhile blk) = past t := by
  rw [past_eq, past_eq t]
  have : (t.dropWhile blk).dropWhile blk = t.dropWhile blk := by
    cases h : t.dropWhile blk with
    | nil => rfl
    | cons c r =>
      have := List.head?_dropWhile_not blk t
      rw [h] at this
      have hc : blk c = false := by simpa using this
      rw [List.dropWhile_cons, hc]; rfl
  rw [this]
theorem dw_head {t : List UInt8} {c : UInt8} {r : List UInt8} (h : t.dropWhile blk = c :: r) : blk c = false := by
  have := List.head?_dropWhile_not blk t
  rw [h] at this
  simpa using this
theorem toList_bl (x : ByteArray) : x.toList = bl x := by rw [ByteArray.toList_eq]
theorem AL.B_le {w W : World} {B b : Nat} {s : ByteArray} {t : List UInt8} {done : List (Nat × List UInt8 × List UInt8)} {p ln cl : Nat} {v : Value} (h : AL w B b s W t done p ln cl v) : B ≤ W.heap.size := Nat.le_trans h.sc.le (Nat.le_of_lt (lt_of_obj h.sc.blk))
theorem AL.keeps {w W W' : World} {B b : Nat} {s : ByteArray} {t : List UInt8} {done : List (Nat × List UInt8 × List UInt8)} {p ln cl : Nat} {v : Value} (h : AL w B b s W t done p ln cl v) (hk : Keeps none' W W') : AL w B b s W' t done p ln cl v :=
  ⟨h.sc.keeps hk (fun h => h) (fun _ _ h => h), h.dt, h.ch, h.pl, h.sm, h.dn, h.bel.trans (hk.below h.B_le (fun _ z => z.elim))⟩
theorem AL.len {w W : World} {B b : Nat} {s : ByteArray} {t : List UInt8} {done : List (Nat × List UInt8 × List UInt8)} {p ln cl : Nat} {v : Value} (h : AL w B b s W t done p ln cl v) : t.length + p = s.size := by
  have := h.sc.ps
  rw [← h.dt, List.length_drop, bl_len]; omega
theorem AL.skip {w W W' : World} {B b : Nat} {s : ByteArray} {t : List UInt8} {done : List (Nat × List UInt8 × List UInt8)} {p ln cl : Nat} {v : Value} (h : AL w B b s W t done p ln cl v) {n : Nat} (hn : n ≤ t.length) (hc : Ch t (t.drop n)) (hp : scanM (t.drop n) = scanM t)
    (hS : Sc W' B b s (p + n) (skipP (ln, cl) (t.take n)).1 (skipP (ln, cl) (t.take n)).2 v done.length (flatT (bl s) done)) (hk : Keeps (fun k => k = b) W W') : AL w B b s W' (t.drop n) done (p + n) (skipP (ln, cl) (t.take n)).1 (skipP (ln, cl) (t.take n)).2 v := by
  refine ⟨hS, by rw [← List.drop_drop, h.dt], h.ch.trans hc, ?_, by rw [hp]; exact h.sm, by have := h.dn; omega, h.bel.trans (hk.below h.B_le (fun k e => by rw [e]; exact h.sc.le))⟩
  rw [place_step h.ch hn hc, h.pl]
theorem own_ge {w : World} {B n size : Nat} {e : TypeId} {v : Value} {xs : List Value} (h : w.ownsRow B e size v n xs) : ∀ g, v.ownBlock = some g → B ≤ g := by
  intro g hg
  rcases h.2 with ⟨rfl, _⟩ | ⟨g', cap, cur, rfl, hb, _⟩
  · simp [Value.ownBlock] at hg
  · have : g' = g := by simpa [Value.ownBlock] using hg
    omega
theorem flatT_snoc (l : List UInt8) (xs : List (Nat × List UInt8 × List UInt8)) (x : Nat × List UInt8 × List UInt8) : flatT l (xs ++ [x]) = flatT l xs ++ tokV l x := by unfold flatT; rw [List.flatMap_append]; simp
theorem AL.fin {w W W' : World} {B b : Nat} {s : ByteArray} {done : List (Nat × List UInt8 × List UInt8)} {p ln cl : Nat} {v v' : Value} (h : AL w B b s W [] done p ln cl v) {p' ln' cl' : Nat}
    (hS : Sc W' B b s p' ln' cl' v' (done.length + 1) (flatT (bl s) done ++ tokC 0 ⟨#[]⟩ ln cl p)) (hk : Keeps (fun k => k = b ∨ v.ownBlock = some k) W W') : AllP w B b s .nilIface W' := by
  have h0 : past ([] : List UInt8) = [] := by rw [past_eq]; rfl
  have hm : scanM (bl s) = (done ++ [(0, [], [])], none) := by rw [h.sm, scanM_end h0]
  have hp : p = s.size := by have := h.len; simpa using this
  refine ⟨fun _ => ⟨rfl, p', ln', cl', v', ?_⟩, fun no u e => (by rw [hm] at e; cases e), h.bel.trans (hk.below h.B_le (fun k z => z.elim (fun e => by rw [e]; exact h.sc.le) (own_ge h.sc.row k)))⟩
  rw [hm, flatT_snoc, List.length_append]
  have ht : tokV (bl s) (0, [], []) = tokC 0 ⟨#[]⟩ ln cl p := by
    unfold tokV
    simp only [h.pl, List.length_nil, Nat.sub_zero, bl_len, hp]
    rfl
  rw [ht]
  exact hS
set_option maxHeartbeats 4000000 in
set_option maxRecDepth 100000 in
theorem all_next {w W : World} {B b : Nat} {s : ByteArray} {t : List UInt8} {done : List (Nat × List UInt8 × List UInt8)} {p ln cl : Nat} {v : Value} {tm : Array Value} {Q : Exit → Act → World → Prop} (hA : AL w B b s W t done p ln cl v) (hs : s.size ≤ 1048576)
    (htm : tm = aFr b (fun i => tm.getD i undef))
    (hret : ∀ a' W' x, a'.tmps = aFr b (fun i => a'.tmps.getD i undef) → a'.tmps.getD 2 undef = x → a'.defers = [] → AllP w B b s x W' → Q .ret a' W')
    (hgo : ∀ k a' W' u p' ln' cl', a'.tmps = aFr b (fun i => a'.tmps.getD i undef) → a'.defers = [] → AL w B b s W' u done p' ln' cl' v → LabOK k u → u.length ≤ t.length → Q (.goto k) a' W') :
    (allX 5).wp Tryz.prog Q { tmps := tm, defers := [] } W := by
  generalize (fun i => tm.getD i undef) = g at htm
  subst htm
  unfold aFr
  conv => arg 2; whnf
  have hlen := hA.len
  obtain ⟨r, hr⟩ : ∃ r, s.extract p s.size = r := ⟨_, rfl⟩
  have hbr : bl r = t := by rw [← hr, bl_extract, hA.dt]
  have hrl : r.size = t.length := by rw [← hbr, bl_len]
  have cR := fun (W' : World) (hk : Keeps none' W W') => rest_any (hA.keeps hk).sc (by omega)
  rw [hr] at cR
  have cT := fun W' => trim_any r W'
  rw [hbr] at cT
  obtain ⟨u, hu⟩ : ∃ u, t.dropWhile blk = u := ⟨_, rfl⟩
  have hsuf := (List.dropWhile_suffix (l := t) blk).length_le
  rw [hu] at hsuf cT
  obtain ⟨n, hn⟩ : ∃ n, t.length - u.length = n := ⟨_, rfl⟩
  have hun : t.drop n = u := by
    have e := List.takeWhile_append_dropWhile (p := blk) (l := t)
    rw [hu] at e
    have hl : (t.takeWhile blk).length = n := by have := congrArg List.length e; rw [List.length_append] at this; omega
    generalize t.takeWhile blk = a at e hl
    rw [← e, ← hl, List.drop_left]
  have hz : (ba u).size = u.length := ba_size u
  obtain ⟨z, hzd⟩ : ∃ z, ba u = z := ⟨_, rfl⟩
  rw [hzd] at hz cT
  have hsub : (r.size : Int) - (z.size : Int) = (n : Int) := by omega
  have HA := Lib.hid hA
  have Hun := Lib.hid hun
  have Hu := Lib.hid hu
  have Hn := Lib.hid hn
  have Hlen := Lib.hid hlen
  have Hsuf := Lib.hid hsuf
  clear hA hr hbr hrl hu hsuf hn hun hz hzd hlen
  go_wp2_with fail
  refine (cR _ (Keeps.refl _ _)).mono ?_
  rintro e W1 ⟨rfl, q1, rfl⟩
  have k1 : Keeps none' W (W.drewN q1) := Keeps.drewN _ _ _
  generalize W.drewN q1 = W1 at k1 ⊢
  go_wp2_with fail
  refine (cR _ k1).mono ?_
  rintro e W2 ⟨rfl, q2, rfl⟩
  have k2 : Keeps none' W (W1.drewN q2) := k1.trans (Keeps.drewN _ _ _) (fun _ _ h => h)
  generalize W1.drewN q2 = W2 at k2 ⊢
  clear cR k1
  go_wp2_with fail
  refine (cT _).mono ?_
  rintro e W3 ⟨rfl, b3⟩
  have k3 : Keeps none' W W3 := k2.trans (Keeps.of_below0 b3) (fun _ _ h => h)
  clear cT b3 k2
  go_wp2_with fail
  have hA3 := HA.out.keeps k3
  have hnl : n ≤ t.length := by have := Hn.out; omega
  have cK := skip_any hA3.sc (by omega) n (by have := Hlen.out; have := hA3.sc.ps; omega)
  rw [hA3.dt] at cK
  have HA3 := Lib.hid hA3
  have Hnl := Lib.hid hnl
  clear hA3 k3 hnl
  clear hsub
  rw [w64i (by omega) (by have := Hnl.out; have := Hlen.out; omega)]
  go_wp2_with fail
  refine cK.mono ?_
  rintro e W4 ⟨rfl, hS4, k4⟩
  have hA4 := HA3.out.skip Hnl.out (by rw [Hun.out, ← Hu.out]; exact dropWhile_ch blk_ascii t) (scanM_past (by rw [Hun.out, ← Hu.out, past_dw])) hS4 k4
  rw [Hun.out] at hA4
  generalize skipP (ln, cl) (t.take n) = L4 at hA4
  clear cK hS4 k4
  obtain ⟨r4, hr4⟩ : ∃ r, s.extract (p + n) s.size = r := ⟨_, rfl⟩
  have cR4 := fun (W' : World) (hk : Keeps none' W4 W') => rest_any (hA4.keeps hk).sc (by omega)
  rw [hr4] at cR4
  have hb4 : bl r4 = u := by rw [← hr4, bl_extract, hA4.dt]
  have ht4 : r4.toList = u := by rw [toList_bl, hb4]
  have HA4 := Lib.hid hA4
  have Hb4 := Lib.hid hb4
  clear hA4 hr4 hb4
  cases u with
  | nil =>
    have tn : r4.toList = [] := ht4
    have te : r4.toList.isEmpty = true := by rw [ht4]; rfl
    go_wp2_with fail
    refine (cR4 _ (Keeps.refl _ _)).mono ?_
    rintro e W5 ⟨rfl, q5, rfl⟩
    have hA5 := HA4.out.keeps (Keeps.drewN none' _ q5)
    have cP := put_any hA5.sc (by omega) 0 (by have := hA5.sc.ps; omega) 0 ⟨#[]⟩ (by have := hA5.dn; have := hA5.sc.ps; omega) hA5.B_le
    rw [show ((0 : Nat) : Int) = 0 from rfl] at cP
    have HA5 := Lib.hid hA5
    clear hA5 cR4 HA4
    go_wp2_with fail
    refine cP.mono ?_
    rintro e W6 ⟨rfl, v6, hS6, k6, _⟩
    have HF := Lib.hid (HA5.out.fin hS6 k6)
    clear cP hS6 k6
    go_wp2_with fail
    exact hret _ _ _ rfl rfl rfl HF.out
  | cons c u =>
    have tn : ¬ r4.toList = [] := by rw [ht4]; simp
    have te : r4.toList.isEmpty = false := by rw [ht4]; rfl
    go_wp2_with fail
    refine (cR4 _ (Keeps.refl _ _)).mono ?_
    rintro e W5 ⟨rfl, q5, rfl⟩
    have k5 : Keeps none' W4 (W4.drewN q5) := Keeps.drewN _ _ _
    generalize W4.drewN q5 = W5 at k5 ⊢
    go_wp2_with fail
    refine (cR4 _ k5).mono ?_
    rintro e W6 ⟨rfl, q6, rfl⟩
    have k6 : Keeps none' W4 (W5.drewN q6) := k5.trans (Keeps.drewN _ _ _) (fun _ _ h => h)
    generalize W5.drewN q6 = W6 at k6 ⊢
    clear cR4 k5 tn te ht4
    go_wp2_with fail
    have hsz4 : 0 < r4.size := by rw [← bl_len, Hb4.out]; simp
    have hd0 : Utf8.decode r4 0 = (dc (c :: u), dw (c :: u)) := by
      have := (Lib.decodeL_drop r4 0).symm
      rw [List.drop_zero] at this
      rw [← Hb4.out]; exact this
    have hit : (W6.iter r4 0).heap[W6.heap.size]? = some (.stringIter r4 0) := by simpa using World.iter_heap W6 r4 0
    have hnx : ∀ ty, (Instr.next (.pointer (some ⟨W6.heap.size, 0, none⟩)) true ty).run Tryz.prog (W6.iter r4 0) = .ok (.tuple #[.bool true, .int .i64 0, .int .i32 (dc (c :: u) : Nat)]) ((W6.iter r4 0).iterAt W6.heap.size r4 (0 + dw (c :: u))) := fun ty => by
      have := Lib.run_next_any_at (P := Tryz.prog) (W6.iter r4 0) W6.heap.size r4 0 ty hit hsz4
      rw [hd0] at this
      exact this
    have k7 : Keeps none' W4 ((W6.iter r4 0).iterAt W6.heap.size r4 (0 + dw (c :: u))) := by
      have hbw2 : Below W6.heap.size W6 ((W6.iter r4 0).iterAt W6.heap.size r4 (0 + dw (c :: u))) := Lib.below_iterAt ((Below.refl _ W6).alloc (Nat.le_refl _) (.stringIter r4 0)) (Nat.le_refl _) r4 _
      exact k6.trans (Keeps.of_below0 hbw2) (fun _ _ h => h)
    have hA7 := HA4.out.keeps k7
    have HA7 := Lib.hid hA7
    generalize (W6.iter r4 0).iterAt W6.heap.size r4 (0 + dw (c :: u)) = W7 at hnx HA7
    obtain ⟨d, hd⟩ : ∃ d, dc (c :: u) = d := ⟨_, rfl⟩
    rw [hd] at hnx
    have Hd := Lib.hid hd
    clear hA7 k7 k6 hit hd0 HA4 hd hsz4
    rename_i K1 hK
    have HK := Lib.hid hK
    clear hK
    refine wp_loop_rounds 1 ?_
    rw [rounds_succ]
    go_wp2_with fail
    refine HK.out _ _ ?_
    exact all_switch HA7.out rfl (dw_head Hu.out) (by rw [Hd.out]; rfl) hret (fun k a' e1 e2 hL => hgo k a' W7 _ _ _ _ e1 e2 HA7.out hL Hsuf.out)
end Go.Proofs.YtekoeobfddfgpaaGreatDoor.C
set_option linter.unusedVariables false
set_option linter.unusedSimpArgs false
namespace Go.Proofs.YtekoeobfddfgpaaGreatDoor.C
open Go Go.RowKit Go.Shelf Go.Proofs.YtekoeobfddfgpaaGreatDoor.M Go.Proofs.YtekoeobfddfgpaaGreatDoor.Z
theorem find_cons (c b : UInt8) (l : List UInt8) : find c (b :: l) = if b = c then 0 else find c l + 1 := by
  unfold find
  rw [List.takeWhile_cons]
  by_cases h : b = c
  · simp [h]
  · simp [h]
theorem find_le (c : UInt8) (l : List UInt8) : find c l ≤ l.length := (List.takeWhile_prefix _).length_le
theorem idx_find (c : UInt8) : ∀ l : List UInt8, (find c l = l.length → Lib.indexByte l c = -1) ∧ (find c l ≠ l.length → Lib.indexByte l c = (find c l : Nat))
  | [] => ⟨fun _ => rfl, fun h => absurd rfl h⟩
  | b :: l => by
    obtain ⟨h1, h2⟩ := idx_find c l
    have hle := find_le c l
    rw [find_cons]
    unfold Lib.indexByte
    by_cases hb : b = c
    · subst hb
      simp
    · have hb' : (b == c) = false := by simpa using hb
      rw [if_neg hb, hb']
      simp only [List.length_cons, Bool.false_eq_true, if_false]
      by_cases hf : find c l = l.length
      · rw [h1 hf]
        exact ⟨fun _ => rfl, fun h => by omega⟩
      · rw [h2 hf]
        refine ⟨fun h => by omega, fun _ => ?_⟩
        have : (((find c l : Nat) : Int) == -1) = false := by simp only [beq_eq_false_iff_ne, ne_eq]; omega
        rw [this]; simp
theorem drop_find (c : UInt8) (l : List UInt8) : l.drop (find c l) = l.dropWhile (· != c) := by
  have e := List.takeWhile_append_dropWhile (p := (· != c)) (l := l)
  unfold find
  generalize l.takeWhile (· != c) = a at e ⊢
  generalize l.dropWhile (· != c) = d at e ⊢
  rw [← e, List.drop_left]
theorem idx_any (r : ByteArray) (c : UInt8) (w : World) : Calls Tryz.prog 46 #[.string r, .int .u8 (c.toNat : Nat)] w fun e w' => e = .returned (.int .i64 (Lib.indexByte (bl r) c)) ∧ w = w' := by
  refine (Tryz.strings_IndexByte r (c.toNat : Nat) w).mono ?_
  rintro e w' ⟨rfl, rfl⟩
  rw [u8_nat]
  exact ⟨rfl, rfl⟩
theorem own_lt {w : World} {B n size : Nat} {e : TypeId} {v : Value} {xs : List Value} (h : w.ownsRow B e size v n xs) : ∀ g, v.ownBlock = some g → g < w.heap.size := by
  intro g hg
  rcases h.2 with ⟨rfl, _⟩ | ⟨g', cap, cur, rfl, hb, ho, _⟩
  · simp [Value.ownBlock] at hg
  · have : g' = g := by simpa [Value.ownBlock] using hg
    rw [← this]; exact lt_of_obj ho
theorem AL.put {w W W' : World} {B b : Nat} {s : ByteArray} {u : List UInt8} {done : List (Nat × List UInt8 × List UInt8)} {p ln cl : Nat} {v v' : Value} (h : AL w B b s W u done p ln cl v) (hp : past u = u) {c : UInt8} {r : List UInt8} (hu : u = c :: r) (hb : blk c = false) (h35 : c ≠ 35) {k m : Nat} {x : List UInt8} (ho : oneM u = .tok k x m)
    (hS : Sc W' B b s (p + m) (skipP (ln, cl) (u.take m)).1 (skipP (ln, cl) (u.take m)).2 v' (done.length + 1) (flatT (bl s) done ++ tokC (k : Nat) (ba x) ln cl p)) (hk : Keeps (fun k => k = b ∨ v.ownBlock = some k) W W') :
    AL w B b s W' (u.drop m) (done ++ [(k, x, u)]) (p + m) (skipP (ln, cl) (u.take m)).1 (skipP (ln, cl) (u.take m)).2 v' ∧ (u.drop m).length < u.length := by
  have hne : u ≠ [] := by rw [hu]; simp
  have hw := oneM_w hne (fun c' r' e => by rw [hu] at e; injection e with e _; subst e; exact ⟨hb, h35⟩) ho
  have hch := oneM_ch.1 _ _ _ ho
  have hm := scanM_tok (t := u) (by rw [hp]; exact hne) (by rw [hp]; exact ho)
  rw [hp] at hm
  refine ⟨⟨?_, by rw [← List.drop_drop, h.dt], h.ch.trans hch, by rw [place_step h.ch hw.2 hch, h.pl], by rw [h.sm, hm]; simp, by rw [List.length_append]; have := h.dn; simp; omega, h.bel.trans (hk.below h.B_le (fun k z => z.elim (fun e => by rw [e]; exact h.sc.le) (own_ge h.sc.row k)))⟩, by rw [List.length_drop]; have := List.length_pos_iff.2 hne; omega⟩
  rw [flatT_snoc, List.length_append]
  have ht : tokV (bl s) (k, x, u) = tokC (k : Nat) (ba x) ln cl p := by
    have hl : (bl s).length - u.length = p := by have := h.len; rw [bl_len]; omega
    unfold tokV
    simp only [h.pl, hl]
  rw [ht]
  exact hS
set_option maxHeartbeats 4000000 in
set_option maxRecDepth 100000 in
theorem all_remark {w W : World} {B b : Nat} {s : ByteArray} {u : List UInt8} {done : List (Nat × List UInt8 × List UInt8)} {p ln cl : Nat} {v : Value} {tm : Array Value} {Q : Exit → Act → World → Prop} (hA : AL w B b s W u done p ln cl v) (hs : s.size ≤ 1048576) (hL : LabOK 1 u)
    (htm : tm = aFr b (fun i => tm.getD i undef))
    (hgo : ∀ a' W' u' p' ln' cl', a'.tmps = aFr b (fun i => a'.tmps.getD i undef) → a'.defers = [] → AL w B b s W' u' done p' ln' cl' v → u'.length < u.length → Q (.goto 0) a' W') :
    (allX 24).wp Tryz.prog Q { tmps := tm, defers := [] } W := by
  generalize (fun i => tm.getD i undef) = g at htm
  subst htm
  unfold aFr
  conv => arg 2; whnf
  obtain ⟨rr, hu⟩ := hL
  have hlen := hA.len
  obtain ⟨r, hr⟩ : ∃ r, s.extract p s.size = r := ⟨_, rfl⟩
  have hbr : bl r = u := by rw [← hr, bl_extract, hA.dt]
  have hrl : r.size = u.length := by rw [← hbr, bl_len]
  have cR := fun (W' : World) (hk : Keeps none' W W') => rest_any (hA.keeps hk).sc (by omega)
  rw [hr] at cR
  have cI := fun (W' : World) => idx_any r 10 W'
  rw [hbr, show (((10 : UInt8).toNat : Nat) : Int) = 10 from rfl] at cI
  obtain ⟨n, hn⟩ : ∃ n, find 10 u = n := ⟨_, rfl⟩
  have hfl := find_le 10 u
  rw [hn] at hfl
  have hd : u.drop n = u.dropWhile (· != 10) := by rw [← hn, drop_find]
  have hn1 : 1 ≤ n := by rw [← hn, hu, find_cons, if_neg (by decide)]; omega
  have hsc : scanM (u.drop n) = scanM u := by
    refine scanM_past ?_
    rw [hd, past_eq u, hu]
    have : (35 :: rr : List UInt8).dropWhile blk = 35 :: rr := by rw [List.dropWhile_cons]; rfl
    rw [this]
    simp only [if_true]
    rw [List.dropWhile_cons]
    rfl
  have hch : Ch u (u.drop n) := by rw [hd]; exact line_ch u
  have HA := Lib.hid hA
  have Hlen := Lib.hid hlen
  have fin : ∀ (W2 : World) (a' : Act), Keeps none' W W2 → a'.tmps = aFr b (fun i => a'.tmps.getD i undef) → a'.defers = [] → True := fun _ _ _ _ _ => trivial
  have cK := fun (W2 : World) (hk : Keeps none' W W2) => skip_any (HA.out.keeps hk).sc (by omega) n (by have := (HA.out).sc.ps; omega)
  rw [hA.dt] at cK
  have hstep := fun (W2 W3 : World) (hk : Keeps none' W W2) (hS) (hk2 : Keeps (fun k => k = b) W2 W3) => (HA.out.keeps hk).skip (W' := W3) hfl hch hsc hS hk2
  have Hstep := Lib.hid hstep
  by_cases hf : find 10 u = u.length
  · have hi := (idx_find 10 u).1 hf
    rw [hi] at cI
    have hnl : n = u.length := by rw [← hn]; exact hf
    have hrn : (r.size : Int) = (n : Int) := by omega
    clear hA hr hbr hlen hd hsc hch hstep fin hf hi hu
    have Hfl := Lib.hid hfl
    have Hnl := Lib.hid hnl
    have Hn1 := Lib.hid hn1
    clear hfl hnl hn1 hn hrl
    go_wp2_with fail
    refine (cR _ (Keeps.refl _ _)).mono ?_
    rintro e W1 ⟨rfl, q1, rfl⟩
    have k1 : Keeps none' W (W.drewN q1) := Keeps.drewN _ _ _
    generalize W.drewN q1 = W1 at k1 ⊢
    go_wp2_with fail
    refine (cI _).mono ?_
    rintro e W2 ⟨rfl, rfl⟩
    go_wp2_with fail
    refine (cR _ k1).mono ?_
    rintro e W3 ⟨rfl, q3, rfl⟩
    have k3 : Keeps none' W (W1.drewN q3) := k1.trans (Keeps.drewN _ _ _) (fun _ _ h => h)
    generalize W1.drewN q3 = W3 at k3 ⊢
    go_wp2_with fail
    clear cR cI hrn
    go_wp2_with fail
    refine (cK _ k3).mono ?_
    rintro e W4 ⟨rfl, hS4, k4⟩
    have hA4 := Lib.hid (Hstep.out _ _ k3 hS4 k4)
    clear cK hS4 k4
    go_wp2_with fail
    go_step3
    exact hgo _ _ _ _ _ _ rfl rfl hA4.out (by rw [List.length_drop]; have := Hn1.out; have := Hfl.out; omega)
  · have hi := (idx_find 10 u).2 hf
    rw [hi, hn] at cI
    have hi0 : (0 : Int) ≤ (n : Int) := by omega
    clear hA hr hbr hlen hd hsc hch hstep fin hf hi hu
    have Hfl := Lib.hid hfl
    have Hn1 := Lib.hid hn1
    clear hfl hn1 hn hrl
    go_wp2_with fail
    refine (cR _ (Keeps.refl _ _)).mono ?_
    rintro e W1 ⟨rfl, q1, rfl⟩
    have k1 : Keeps none' W (W.drewN q1) := Keeps.drewN _ _ _
    generalize W.drewN q1 = W1 at k1 ⊢
    go_wp2_with fail
    refine (cI _).mono ?_
    rintro e W2 ⟨rfl, rfl⟩
    clear cR cI
    go_wp2_with fail
    refine (cK _ k1).mono ?_
    rintro e W4 ⟨rfl, hS4, k4⟩
    have hA4 := Lib.hid (Hstep.out _ _ k1 hS4 k4)
    clear cK hS4 k4
    go_wp2_with fail
    go_step3
    exact hgo _ _ _ _ _ _ rfl rfl hA4.out (by rw [List.length_drop]; have := Hn1.out; have := Hfl.out; omega)
end Go.Proofs.YtekoeobfddfgpaaGreatDoor.C
set_option linter.unusedVariables false
set_option linter.unusedSimpArgs false
namespace Go.Proofs.YtekoeobfddfgpaaGreatDoor.C
open Go Go.RowKit Go.Shelf Go.Proofs.YtekoeobfddfgpaaGreatDoor.M Go.Proofs.YtekoeobfddfgpaaGreatDoor.Z
theorem past_self {u : List UInt8} {c : UInt8} {r : List UInt8} (hu : u = c :: r) (hb : blk c = false) (h : c ≠ 35) : past u = u := by
  rw [past_eq, hu, List.dropWhile_cons, hb]
  simp [h]
set_option maxHeartbeats 4000000 in
set_option maxRecDepth 100000 in
theorem all_sign {w W : World} {B b : Nat} {s : ByteArray} {u : List UInt8} {done : List (Nat × List UInt8 × List UInt8)} {p ln cl : Nat} {v : Value} {tm : Array Value} {Q : Exit → Act → World → Prop} (hA : AL w B b s W u done p ln cl v) (hs : s.size ≤ 1048576) (hL : LabOK 3 u)
    (htm : tm = aFr b (fun i => tm.getD i undef))
    (hgo : ∀ a' W' u' d' p' ln' cl' v', a'.tmps = aFr b (fun i => a'.tmps.getD i undef) → a'.defers = [] → AL w B b s W' u' d' p' ln' cl' v' → u'.length < u.length → Q (.goto 0) a' W') :
    (allX 32).wp Tryz.prog Q { tmps := tm, defers := [] } W := by
  generalize (fun i => tm.getD i undef) = g at htm
  subst htm
  unfold aFr
  conv => arg 2; whnf
  obtain ⟨c, rr, hu, hc⟩ := hL
  have hlen := hA.len
  obtain ⟨r, hr⟩ : ∃ r, s.extract p s.size = r := ⟨_, rfl⟩
  have hbr : bl r = u := by rw [← hr, bl_extract, hA.dt]
  have hrl : r.size = u.length := by rw [← hbr, bl_len]
  have cR := fun (W' : World) (hk : Keeps none' W W') => rest_any (hA.keeps hk).sc (by omega)
  rw [hr] at cR
  have cW := fun (W' : World) => width_any r c rr (by rw [hbr, hu]) W' (by omega)
  obtain ⟨n, hn⟩ : ∃ n, signW (c :: rr) = n := ⟨_, rfl⟩
  have hnw := signW_w c rr
  rw [hn, ← hu] at hnw
  rw [hn] at cW
  have hb : blk c = false := by rcases hc with rfl | rfl | rfl | rfl | rfl <;> rfl
  have h35 : c ≠ 35 := by rcases hc with rfl | rfl | rfl | rfl | rfl <;> decide
  have ho : oneM u = .tok 2 (u.take n) n := by
    rw [hu]
    simp only [oneM]
    have n1 : c ≠ 93 := by rcases hc with rfl | rfl | rfl | rfl | rfl <;> decide
    have n2 : c ≠ 42 := by rcases hc with rfl | rfl | rfl | rfl | rfl <;> decide
    have n3 : c ≠ 91 := by rcases hc with rfl | rfl | rfl | rfl | rfl <;> decide
    rw [if_neg n1, if_neg n2, if_neg n3, if_pos hc, hn]
  have hx : r.extract 0 n = ba (u.take n) := by rw [extract_ba (by omega), hbr]; rfl
  have cP := fun (W2 : World) (hk : Keeps none' W W2) => put_any (hA.keeps hk).sc (by omega) n (by have := hA.sc.ps; omega) 2 (r.extract 0 n) (by have := hA.dn; have := hA.sc.ps; omega) (hA.keeps hk).B_le
  rw [hA.dt] at cP
  have Hput := Lib.hid (fun (W2 W3 : World) (v' : Value) (hk : Keeps none' W W2) (hS) (hk2 : Keeps (fun k => k = b ∨ v.ownBlock = some k) W2 W3) => (hA.keeps hk).put (v' := v') (W' := W3) (past_self hu hb h35) hu hb h35 ho hS hk2)
  have i1 : (n : Int) ≤ (r.size : Int) := by omega
  have Hx := Lib.hid hx
  clear hA hlen hr hbr hrl hn hu hc hb h35 ho hx
  go_wp2_with fail
  refine (cR _ (Keeps.refl _ _)).mono ?_
  rintro e W1 ⟨rfl, q1, rfl⟩
  have k1 : Keeps none' W (W.drewN q1) := Keeps.drewN _ _ _
  generalize W.drewN q1 = W1 at k1 ⊢
  go_wp2_with fail
  refine (cW _).mono ?_
  rintro e W2 ⟨rfl, rfl⟩
  clear cW
  go_wp2_with fail
  refine (cR _ k1).mono ?_
  rintro e W3 ⟨rfl, q3, rfl⟩
  have k3 : Keeps none' W (W1.drewN q3) := k1.trans (Keeps.drewN _ _ _) (fun _ _ h => h)
  generalize W1.drewN q3 = W3 at k3 ⊢
  clear cR
  go_wp2_with fail
  refine (cP _ k3).mono ?_
  rintro e W4 ⟨rfl, v4, hS4, k4, _⟩
  rw [Hx.out] at hS4
  have hP := Lib.hid (Hput.out _ _ _ k3 hS4 k4)
  clear cP hS4 k4
  go_wp2_with fail
  go_step3
  exact hgo _ _ _ _ _ _ _ _ rfl rfl hP.out.1 hP.out.2
set_option maxHeartbeats 4000000 in
set_option maxRecDepth 100000 in
theorem all_option {w W : World} {B b : Nat} {s : ByteArray} {u : List UInt8} {done : List (Nat × List UInt8 × List UInt8)} {p ln cl : Nat} {v : Value} {tm : Array Value} {Q : Exit → Act → World → Prop} (hA : AL w B b s W u done p ln cl v) (hs : s.size ≤ 1048576) (hL : LabOK 2 u)
    (htm : tm = aFr b (fun i => tm.getD i undef))
    (hret : ∀ a' W' x, a'.tmps = aFr b (fun i => a'.tmps.getD i undef) → a'.tmps.getD 2 undef = x → a'.defers = [] → AllP w B b s x W' → Q .ret a' W')
    (hgo : ∀ a' W' u' d' p' ln' cl' v', a'.tmps = aFr b (fun i => a'.tmps.getD i undef) → a'.defers = [] → AL w B b s W' u' d' p' ln' cl' v' → u'.length < u.length → Q (.goto 0) a' W') :
    (allX 28).wp Tryz.prog Q { tmps := tm, defers := [] } W := by
  generalize (fun i => tm.getD i undef) = g at htm
  subst htm
  unfold aFr
  conv => arg 2; whnf
  obtain ⟨rr, hu⟩ := hL
  have hlen := hA.len
  obtain ⟨r, hr⟩ : ∃ r, s.extract p s.size = r := ⟨_, rfl⟩
  have hbr : bl r = u := by rw [← hr, bl_extract, hA.dt]
  have hrl : r.size = u.length := by rw [← hbr, bl_len]
  have cR := fun (W' : World) (hk : Keeps none' W W') => rest_any (hA.keeps hk).sc (by omega)
  rw [hr] at cR
  have cI := fun (W' : World) => idx_any r 93 W'
  rw [hbr, show (((93 : UInt8).toNat : Nat) : Int) = 93 from rfl] at cI
  have hfl := find_le 93 rr
  have hfu : find 93 u = find 93 rr + 1 := by rw [hu, find_cons, if_neg (by decide)]
  have hul : u.length = rr.length + 1 := by rw [hu]; rfl
  have hb : blk 91 = false := rfl
  have h35 : (91 : UInt8) ≠ 35 := by decide
  by_cases hf : find 93 rr = rr.length
  · have ho : oneM u = .bad 25 0 := by
      rw [hu]; simp only [oneM]
      rw [if_neg (show ¬ (91 : UInt8) = 93 by decide), if_neg (show ¬ (91 : UInt8) = 42 by decide), if_pos trivial, if_pos hf]
    have hi := (idx_find 93 u).1 (by omega)
    rw [hi] at cI
    have hF := fun (W2 W' : World) (h2 : Keeps none' W W2) (hk : Keeps (fun k => k = b) W2 W') => (hA.keeps h2).fault (past_self hu hb h35) hu ho hk
    have hpl := hA.pl
    rw [List.drop_zero, hpl] at hF
    have Hf := Lib.hid hF
    have cF := fun (W2 : World) (h2 : Keeps none' W W2) no => fault_any (hA.keeps h2).sc no
    clear hA hlen hr hbr hrl hu hfu hul ho hi hF hpl hf hfl
    go_wp2_with fail
    refine (cR _ (Keeps.refl _ _)).mono ?_
    rintro e W1 ⟨rfl, q1, rfl⟩
    have k1 : Keeps none' W (W.drewN q1) := Keeps.drewN _ _ _
    generalize W.drewN q1 = W1 at k1 ⊢
    clear cR
    go_wp2_with fail
    refine (cI _).mono ?_
    rintro e W2 ⟨rfl, rfl⟩
    clear cI
    go_wp2_with fail
    refine (cF _ k1 _).mono ?_
    rintro e w' ⟨rfl, q, rfl⟩
    clear cF
    go_wp2_with fail
    exact hret _ _ _ rfl rfl rfl (Hf.out _ _ k1 (Keeps.drewN _ _ _))
  · obtain ⟨n, hn⟩ : ∃ n, find 93 rr = n := ⟨_, rfl⟩
    have ho : oneM u = .tok 3 (spaced (rr.take n)) (n + 2) := by
      rw [hu]; simp only [oneM]
      rw [if_neg (show ¬ (91 : UInt8) = 93 by decide), if_neg (show ¬ (91 : UInt8) = 42 by decide), if_pos trivial, if_neg hf, hn]
    have hi := (idx_find 93 u).2 (by omega)
    rw [hi, hfu, hn] at cI
    obtain ⟨y, hy⟩ : ∃ y, r.extract 1 (n + 1) = y := ⟨_, rfl⟩
    have hyb : bl y = rr.take n := by
      rw [← hy, bl_ext, hbr, hu]; rfl
    have hys : y.size ≤ 4294967296 := by rw [← hy]; simp; omega
    have cJ := fun (W' : World) => join_fields y W' hys
    rw [hyb] at cJ
    have cP := fun (W2 : World) (hk : Keeps none' W W2) => put_any (hA.keeps hk).sc (by omega) (n + 2) (by have := hA.sc.ps; omega) 3 (ba (spaced (rr.take n))) (by have := hA.dn; have := hA.sc.ps; omega) (hA.keeps hk).B_le
    rw [hA.dt] at cP
    have Hput := Lib.hid (fun (W2 W3 : World) (v' : Value) (hk : Keeps none' W W2) (hS) (hk2 : Keeps (fun k => k = b ∨ v.ownBlock = some k) W2 W3) => (hA.keeps hk).put (v' := v') (W' := W3) (past_self hu hb h35) hu hb h35 ho hS hk2)
    have i0 : (0 : Int) ≤ ((n + 1 : Nat) : Int) := by omega
    have i1 : (1 : Int) ≤ ((n + 1 : Nat) : Int) := by omega
    have i2 : ((n + 1 : Nat) : Int) ≤ (r.size : Int) := by omega
    have i3 : ((n + 1 : Nat) : Int) + 1 = ((n + 2 : Nat) : Int) := by omega
    have Hy := Lib.hid hy
    have Hi3 := Lib.hid i3
    obtain ⟨m, hm⟩ : ∃ m, n + 1 = m := ⟨_, rfl⟩
    rw [hm] at cI i0 i1 i2 Hi3 Hy
    have hmb : m ≤ 1048577 := by omega
    clear hA hlen hr hbr hrl hu hfu hul ho hi hf hfl hn hy hyb hys i3 hm
    go_wp2_with fail
    refine (cR _ (Keeps.refl _ _)).mono ?_
    rintro e W1 ⟨rfl, q1, rfl⟩
    have k1 : Keeps none' W (W.drewN q1) := Keeps.drewN _ _ _
    generalize W.drewN q1 = W1 at k1 ⊢
    go_wp2_with fail
    refine (cI _).mono ?_
    rintro e W2 ⟨rfl, rfl⟩
    clear cI
    go_wp2_with fail
    refine (cR _ k1).mono ?_
    rintro e W3 ⟨rfl, q3, rfl⟩
    have k3 : Keeps none' W (W1.drewN q3) := k1.trans (Keeps.drewN _ _ _) (fun _ _ h => h)
    generalize W1.drewN q3 = W3 at k3 ⊢
    clear cR
    go_wp2_with fail
    rw [Hy.out]
    refine (cJ _).mono ?_
    rintro e W4 ⟨A, F, rfl, b4, cJ2⟩
    have k4 : Keeps none' W W4 := k3.trans (Keeps.of_below0 b4) (fun _ _ h => h)
    have cJ3 := cJ2 W4 (Keeps.refl _ _)
    clear cJ cJ2 b4
    go_wp2_with fail
    refine cJ3.mono ?_
    rintro e W5 ⟨rfl, b5⟩
    have k5 : Keeps none' W W5 := k4.trans (Keeps.of_below0 b5) (fun _ _ h => h)
    clear cJ3 b5
    go_wp2_with fail
    rw [Hi3.out]
    refine (cP _ k5).mono ?_
    rintro e W6 ⟨rfl, v6, hS6, k6, _⟩
    have hP := Lib.hid (Hput.out _ _ _ k5 hS6 k6)
    clear cP hS6 k6
    go_wp2_with fail
    go_step3
    exact hgo _ _ _ _ _ _ _ _ rfl rfl hP.out.1 hP.out.2
set_option maxHeartbeats 4000000 in
set_option maxRecDepth 100000 in
theorem all_text {w W : World} {B b : Nat} {s : ByteArray} {u : List UInt8} {done : List (Nat × List UInt8 × List UInt8)} {p ln cl : Nat} {v : Value} {tm : Array Value} {Q : Exit → Act → World → Prop} (hA : AL w B b s W u done p ln cl v) (hs : s.size ≤ 1048576) (hL : LabOK 4 u)
    (hT : Lib.Utf8Tabs 2 3 W)
    (htm : tm = aFr b (fun i => tm.getD i undef))
    (hret : ∀ a' W' x, a'.tmps = aFr b (fun i => a'.tmps.getD i undef) → a'.tmps.getD 2 undef = x → a'.defers = [] → AllP w B b s x W' → Q .ret a' W')
    (hgo : ∀ a' W' u' d' p' ln' cl' v', a'.tmps = aFr b (fun i => a'.tmps.getD i undef) → a'.defers = [] → AL w B b s W' u' d' p' ln' cl' v' → u'.length < u.length → Q (.goto 0) a' W') :
    (allX 34).wp Tryz.prog Q { tmps := tm, defers := [] } W := by
  generalize (fun i => tm.getD i undef) = g at htm
  subst htm
  unfold aFr
  conv => arg 2; whnf
  obtain ⟨c, rr, hu, hb, h35, h91, h93, h42, hsg⟩ := hL
  have hlen := hA.len
  have cT := text_any hA.sc (by omega) hT hA.B_le (own_lt hA.sc.row)
  rw [hA.dt] at cT
  have hwl := textM_w u
  by_cases he : (textM u).2.2 = 0
  · obtain ⟨o, ho'⟩ : ∃ o, (textM u).1 = o := ⟨_, rfl⟩
    obtain ⟨n, hn⟩ : ∃ n, (textM u).2.1 = n := ⟨_, rfl⟩
    have ho : oneM u = .tok 1 o n := by
      rw [hu]; simp only [oneM]
      rw [if_neg h93, if_neg h42, if_neg h91, if_neg hsg, ← hu, if_neg (by rw [he]; simp), ho', hn]
    rw [hn] at hwl
    have cP := fun (W2 : World) (hk : Keeps none' W W2) => put_any (hA.keeps hk).sc (by omega) n (by have := hA.sc.ps; omega) 1 (ba o) (by have := hA.dn; have := hA.sc.ps; omega) (hA.keeps hk).B_le
    rw [hA.dt] at cP
    have Hput := Lib.hid (fun (W2 W3 : World) (v' : Value) (hk : Keeps none' W W2) (hS) (hk2 : Keeps (fun k => k = b ∨ v.ownBlock = some k) W2 W3) => (hA.keeps hk).put (v' := v') (W' := W3) (past_self hu hb h35) hu hb h35 ho hS hk2)
    have cT2 : Calls Tryz.prog 51 #[.pointer (some ⟨b, 0, none⟩)] W fun e w' => e = .returned (.tuple #[.string (ba o), .int .i64 (n : Nat), .nilIface]) ∧ Below W.heap.size W w' := cT.mono fun e w' ⟨h1, h2⟩ => ⟨by rw [h1.1 he, ho', hn], h2⟩
    clear hA hlen hu hb h35 h91 h93 h42 hsg cT hwl he ho' hn ho hT
    go_wp2_with fail
    refine cT2.mono ?_
    rintro e W1 ⟨rfl, b1⟩
    have k1 : Keeps none' W W1 := Keeps.of_below0 b1
    clear cT2 b1
    go_wp2_with fail
    refine (cP _ k1).mono ?_
    rintro e W2 ⟨rfl, v2, hS2, k2, _⟩
    have hP := Lib.hid (Hput.out _ _ _ k1 hS2 k2)
    clear cP hS2 k2
    go_wp2_with fail
    go_step3
    exact hgo _ _ _ _ _ _ _ _ rfl rfl hP.out.1 hP.out.2
  · obtain ⟨n, hn⟩ : ∃ n, (textM u).2.1 = n := ⟨_, rfl⟩
    obtain ⟨no, hno⟩ : ∃ no, (textM u).2.2 = no := ⟨_, rfl⟩
    have ho : oneM u = .bad no n := by
      rw [hu]; simp only [oneM]
      rw [if_neg h93, if_neg h42, if_neg h91, if_neg hsg, ← hu, if_pos (by simpa using he), hno, hn]
    rw [hn] at hwl
    have hch := (oneM_ch.2 _ _ ho).1
    have hpl : place (bl s) (u.drop n) = skipP (ln, cl) (u.take n) := by rw [place_step hA.ch hwl hch, hA.pl]
    have cT2 : Calls Tryz.prog 51 #[.pointer (some ⟨b, 0, none⟩)] W fun e w' => e = .returned (.tuple #[.string ⟨#[]⟩, .int .i64 0, Go.Proofs.YtekoeobfddfgpaaGreatDoor.E.flt (no : Nat) (place (bl s) (u.drop n)).1 (place (bl s) (u.drop n)).2]) ∧ Below W.heap.size W w' := cT.mono fun e w' ⟨h1, h2⟩ => ⟨by rw [h1.2 he, hno, hn, hpl], h2⟩
    have Hf := Lib.hid (fun (W2 : World) (h2 : Keeps none' W W2) => (hA.keeps h2).fault (past_self hu hb h35) hu ho (Keeps.refl _ W2))
    generalize (((place (bl s) (u.drop n)).1 : Nat) : Int) = L1 at cT2 Hf
    generalize (((place (bl s) (u.drop n)).2 : Nat) : Int) = L2 at cT2 Hf
    clear hA hlen hu hb h35 h91 h93 h42 hsg cT hwl he hn hno ho hT hch hpl
    go_wp2_with fail
    refine cT2.mono ?_
    rintro e W1 ⟨rfl, b1⟩
    have k1 : Keeps none' W W1 := Keeps.of_below0 b1
    clear cT2 b1
    unfold Go.Proofs.YtekoeobfddfgpaaGreatDoor.E.flt at Hf ⊢
    go_wp2_with fail
    exact hret _ _ _ rfl rfl rfl (Hf.out _ k1)
end Go.Proofs.YtekoeobfddfgpaaGreatDoor.C
set_option linter.unusedVariables false
set_option linter.unusedSimpArgs false
namespace Go.Proofs.YtekoeobfddfgpaaGreatDoor.C
open Go Go.RowKit Go.Shelf Go.Proofs.YtekoeobfddfgpaaGreatDoor.M Go.Proofs.YtekoeobfddfgpaaGreatDoor.Z
def JA (w : World) (B b : Nat) (s : ByteArray) (l : Nat) (t : List UInt8) (a : Act) (W : World) : Prop :=
  a.tmps = aFr b (fun i => a.tmps.getD i undef) ∧ a.defers = [] ∧ (∃ done p ln cl v, AL w B b s W t done p ln cl v) ∧ (l = 0 ∨ LabOK l t)
def muA (l : Nat) (t : List UInt8) : Nat := if l = 0 then 2 * t.length + 1 else 2 * t.length
set_option maxHeartbeats 4000000 in
set_option maxRecDepth 100000 in
theorem all_any {w : World} {B b : Nat} {s : ByteArray} {v : Value} (h : Sc w B b s 0 1 1 v 0 []) (hs : s.size ≤ 1048576) (hB : B ≤ w.heap.size) (hT : Lib.Utf8Tabs 2 3 w) (hTB : 2 < B ∧ 3 < B) :
    Calls Tryz.prog 21 #[.pointer (some ⟨b, 0, none⟩)] w fun e w' => ∃ x, e = .returned x ∧ AllP w B b s x w' := by
  have hA0 : AL w B b s w (bl s) [] 0 1 1 v := ⟨h, by simp, Ch.refl _, place_start _, by simp, Nat.le_refl _, Below.refl _ _⟩
  have tabs : ∀ {W : World}, Below B w W → Lib.Utf8Tabs 2 3 W := fun hb =>
    ⟨fun c hc => (hb.cell (p := ⟨2, c, none⟩) hTB.1).trans (hT.1 c hc), fun i hi => ⟨(hb.cell (p := ⟨3, 2 * i, none⟩) hTB.2).trans (hT.2 i hi).1, (hb.cell (p := ⟨3, 2 * i + 1, none⟩) hTB.2).trans (hT.2 i hi).2⟩⟩
  go_enter Tryz.func21, Tryz.ntmps21
  go_wp2
  have hend : ∀ a' W' x, a'.tmps = aFr b (fun i => a'.tmps.getD i undef) → a'.tmps.getD 2 undef = x → a'.defers = [] → AllP w B b s x W' → bodyPost Tryz.prog Tryz.f21 (fun e w' => ∃ x, e = .returned x ∧ AllP w B b s x w') .ret a' W' := by
    rintro ⟨tm, df⟩ W' x e1 e2 e3 hP
    dsimp only at e1 e2 e3
    subst e3
    generalize (fun i => tm.getD i undef) = g at e1
    subst e1
    refine bodyPost_ret (v := x) ?_ rfl ⟨x, rfl, hP⟩
    rw [← e2]
    simp [results, Tryz.results21, go_sem]
  refine scope_labels (JA w B b s) muA ?_ ?_
  · go_wp2
    go_step3
    refine ‹∀ (a : Act) (w : World), Code.wp _ _ _ a w → _› _ _ ?_
    refine all_next hA0 hs rfl (fun a' W' x e1 e2 e3 hP => hend a' W' x e1 e2 e3 hP) ?_
    intro k a' W' u p' ln' cl' e1 e2 hA' hL hlen
    exact ⟨u, e1, e2, ⟨_, _, _, _, _, hA'⟩, .inr hL⟩
  · rintro l t ⟨tm, df⟩ W ⟨e1, e2, ⟨done, p, ln, cl, v, hA⟩, hL⟩
    dsimp only at e1 e2
    subst e2
    have hT2 := tabs hA.bel
    rcases hL with rfl | hL
    · refine ⟨_, rfl, wp_seq (wp_skip ?_)⟩
      refine all_next hA hs e1 (fun a' W' x e1 e2 e3 hP => hend a' W' x e1 e2 e3 hP) ?_
      intro k a' W' u p' ln' cl' e1 e2 hA' hL hlen
      refine ⟨u, ⟨e1, e2, ⟨_, _, _, _, _, hA'⟩, .inr hL⟩, ?_⟩
      unfold muA
      rw [if_pos rfl, if_neg (by rintro rfl; exact hL)]
      omega
    · have hgo : ∀ a' W' u' d' p' ln' cl' v', a'.tmps = aFr b (fun i => a'.tmps.getD i undef) → a'.defers = [] → AL w B b s W' u' d' p' ln' cl' v' → u'.length < t.length → ∃ g', JA w B b s 0 g' a' W' ∧ muA 0 g' < muA l t := by
        intro a' W' u' d' p' ln' cl' v' e1 e2 hA' hlen
        refine ⟨u', ⟨e1, e2, ⟨_, _, _, _, _, hA'⟩, .inl rfl⟩, ?_⟩
        unfold muA
        rw [if_pos rfl, if_neg (by rintro rfl; exact hL)]
        omega
      match l, hL with
      | 1, hL =>
        refine ⟨_, rfl, wp_seq (wp_skip ?_)⟩
        exact all_remark hA hs hL e1 (fun a' W' u' p' ln' cl' => hgo a' W' u' _ p' ln' cl' _)
      | 2, hL =>
        refine ⟨_, rfl, wp_seq (wp_skip ?_)⟩
        exact all_option hA hs hL e1 (fun a' W' x e1 e2 e3 hP => hend a' W' x e1 e2 e3 hP) hgo
      | 3, hL =>
        refine ⟨_, rfl, wp_seq (wp_skip ?_)⟩
        exact all_sign hA hs hL e1 hgo
      | 4, hL =>
        refine ⟨_, rfl, wp_seq (wp_skip ?_)⟩
        exact all_text hA hs hL hT2 e1 (fun a' W' x e1 e2 e3 hP => hend a' W' x e1 e2 e3 hP) hgo
      | 0, hL => exact hL.elim
      | n + 5, hL => exact hL.elim
def linesN (l : List UInt8) : Nat := l.count 10 + (if l ≠ [] ∧ l.getLast? ≠ some 10 then 1 else 0)
def scanE (l : List UInt8) : Option (Nat × Nat × Nat) :=
  if 1048576 < l.length then some (5, 0, 0)
  else if 65536 < linesN l then some (5, 65537, 1)
  else match (scanM l).2 with
    | some x => some (x.1, place l x.2)
    | none => none
def ScanP (s : ByteArray) (w : World) (e : Ending) (w' : World) : Prop :=
  Below w.heap.size w w' ∧
  ((∃ no ln cl, scanE (bl s) = some (no, ln, cl) ∧ e = .returned (.tuple #[.slice none 0 0, Go.Proofs.YtekoeobfddfgpaaGreatDoor.E.flt (no : Nat) (ln : Nat) (cl : Nat)])) ∨
   (scanE (bl s) = none ∧ ∃ v, e = .returned (.tuple #[v, .nilIface]) ∧ w'.ownsRow w.heap.size 38 5 v (scanM (bl s)).1.length (flatT (bl s) (scanM (bl s)).1)))
noncomputable def scan6 : Code := (Tryz.f8.body.bind (sufAt 6)).getD .skip
def sFr (s : ByteArray) (L : Nat) (g : Nat → Value) : Array Value := #[.string s, g 1, g 2, g 3, .int .i64 (L : Nat), g 5, g 6, g 7, g 8, g 9, g 10, g 11, g 12, g 13, g 14, g 15, g 16, g 17, g 18, g 19, g 20, g 21, g 22, g 23, g 24, g 25, g 26, g 27, g 28, g 29, g 30, g 31, g 32, g 33, g 34, g 35, g 36, g 37, g 38, g 39, g 40, g 41]
set_option maxHeartbeats 4000000 in
set_option maxRecDepth 100000 in
theorem scan_tail {s : ByteArray} {w : World} {tm : Array Value} (hs : s.size ≤ 1048576) (hT : Lib.Utf8Tabs 2 3 w) (htm : tm = sFr s (linesN (bl s)) (fun i => tm.getD i undef)) :
    scan6.wp Tryz.prog (bodyPost Tryz.prog Tryz.f8 (ScanP s w)) { tmps := tm, defers := [] } w := by
  generalize (fun i => tm.getD i undef) = g at htm
  subst htm
  unfold sFr
  conv => arg 2; whnf
  have hl := bl_len s
  obtain ⟨L, hL⟩ : ∃ L, linesN (bl s) = L := ⟨_, rfl⟩
  rw [hL]
  by_cases h1 : 65536 < L
  · have hE : scanE (bl s) = some (5, 65537, 1) := by unfold scanE; rw [if_neg (by omega), if_pos (by rw [hL]; exact h1)]
    have i1 : (65536 : Int) < (L : Int) := by omega
    have HE := Lib.hid hE
    clear hE hl h1 hL hT
    go_wp2_with fail
    go_ret2
    exact ⟨Below.refl _ _, .inl ⟨5, 65537, 1, HE.out, rfl⟩⟩
  · have hE : scanE (bl s) = match (scanM (bl s)).2 with | some x => some (x.1, place (bl s) x.2) | none => none := by
      unfold scanE; rw [if_neg (by omega), if_neg (by rw [hL]; exact h1)]
    have i1 : (L : Int) ≤ 65536 := by omega
    have hlt1 : 2 < w.heap.size := cell_blk (hT.1 0 (by decide))
    have hlt2 : 3 < w.heap.size := cell_blk (hT.2 0 (by decide)).1
    obtain ⟨w1, hw1⟩ : ∃ w1, w.alloc (.cells #[.string s, .int .i64 0, .int .i64 1, .int .i64 1, .slice none 0 0] 51) = w1 := ⟨_, rfl⟩
    have hb1 : w1.heap[w.heap.size]? = some (.cells #[.string s, .int .i64 0, .int .i64 1, .int .i64 1, .slice none 0 0] 51 (0, 0)) := by rw [← hw1]; exact heap_alloc_new w _
    have hbel : Below w.heap.size w w1 := by rw [← hw1]; exact (Below.refl _ _).alloc (Nat.le_refl _) _
    have hSc : Sc w1 w.heap.size w.heap.size s 0 1 1 (.slice none 0 0) 0 [] := ⟨Nat.le_refl _, hb1, ⟨rfl, .inl ⟨rfl, rfl⟩⟩, by simp [Value.ownBlock], Nat.zero_le _, by omega, by omega⟩
    have cA := all_any hSc hs hbel.size (tabs_below hT hbel (Nat.le_refl _)) ⟨hlt1, hlt2⟩
    have HE := Lib.hid hE
    have Hb := Lib.hid hbel
    clear hE hl h1 hL hT hlt1 hlt2 hb1 hSc
    go_wp2_with fail
    refine cA.mono ?_
    rintro e w2 ⟨x, rfl, hP⟩
    obtain ⟨hP1, hP2, hP3⟩ := hP
    have hb2 := Hb.out.trans hP3
    clear cA
    cases hsm : (scanM (bl s)).2 with
    | none =>
      obtain ⟨rfl, p, ln, cl, v, hS⟩ := hP1 hsm
      obtain ⟨ao, na, ca, rfl⟩ : ∃ ao n' cap, v = .slice ao n' cap := by
        rcases hS.row.2 with ⟨hv, _⟩ | ⟨g, cap, cur, hv, _⟩
        · exact ⟨_, _, _, hv⟩
        · exact ⟨_, _, _, hv⟩
      have HF : Hid (ScanP s w (.returned (.tuple #[.slice ao na ca, .nilIface])) w2) := Lib.hid ⟨hb2, .inr ⟨by rw [HE.out, hsm], _, rfl, hS.row⟩⟩
      obtain ⟨c0, c1, c2, c3, c4⟩ := hS.cells
      clear hP1 hP2 hP3 hb2 hsm HE hS
      go_wp2_with fail
      go_ret2
      exact HF.out
    | some y =>
      obtain ⟨no, u⟩ := y
      have hx := hP2 no u hsm
      subst hx
      have HF : Hid (ScanP s w (.returned (.tuple #[.slice none 0 0, Go.Proofs.YtekoeobfddfgpaaGreatDoor.E.flt (no : Nat) (place (bl s) u).1 (place (bl s) u).2])) w2) := Lib.hid ⟨hb2, .inl ⟨no, _, _, by rw [HE.out, hsm], rfl⟩⟩
      generalize (((place (bl s) u).1 : Nat) : Int) = L1 at HF ⊢
      generalize (((place (bl s) u).2 : Nat) : Int) = L2 at HF ⊢
      clear hP1 hP2 hP3 hb2 hsm HE
      unfold Go.Proofs.YtekoeobfddfgpaaGreatDoor.E.flt at HF ⊢
      go_wp2_with fail
      go_ret2
      exact HF.out
set_option maxHeartbeats 4000000 in
set_option maxRecDepth 100000 in
theorem scan_any (s : ByteArray) (w : World) (hs : s.size ≤ 140737488351232) (hT : Lib.Utf8Tabs 2 3 w) :
    Calls Tryz.prog 8 #[.string s] w (ScanP s w) := by
  have hi' : 0 < s.size → s.size - 1 < s.size := fun _ => by omega
  have hl := bl_len s
  by_cases h1 : 1048576 < s.size
  · have hE : scanE (bl s) = some (5, 0, 0) := by unfold scanE; rw [if_pos (by rw [hl]; exact h1)]
    have i1 : (1048576 : Int) < (s.size : Int) := by omega
    have HE := Lib.hid hE
    clear hE hl h1
    go_enter Tryz.func8, Tryz.ntmps8
    go_wp2_with fail
    go_ret2
    exact ⟨Below.refl _ _, .inl ⟨5, 0, 0, HE.out, rfl⟩⟩
  · have i1 : (s.size : Int) ≤ 1048576 := by omega
    have cC := fun W => count_one s W
    obtain ⟨u, hu⟩ : ∃ u, (bl s).count 10 = u := ⟨_, rfl⟩
    rw [hu] at cC
    have hu2 : u ≤ s.size := by rw [← hu, ← hl]; exact List.count_le_length
    by_cases h0 : bl s = []
    · have hL : linesN (bl s) = u := by unfold linesN; rw [if_neg (by simp [h0]), hu]; rfl
      have tn : s.toList = [] := by rw [toList_bl]; exact h0
      have te : s.toList.isEmpty = true := by rw [tn]; rfl
      have HL := Lib.hid hL
      clear hL h0 hl hu
      go_enter Tryz.func8, Tryz.ntmps8
      go_wp2_with fail
      refine (cC _).mono ?_
      rintro e w' ⟨rfl, rfl⟩
      go_upto_region 4 with (fail)
      rename ∀ (a : Act) (w : World), Code.wp Tryz.prog (Code.seq (Code.seq (Code.region 6 _ _) _) _) _ a w → _ => hK
      have HK := Lib.hid hK
      clear hK cC
      go_wp2_with fail
      refine HK.out _ _ ?_
      exact scan_tail (by omega) hT (by rw [HL.out]; rfl)
    · have hne : 0 < s.size := by rw [← hl]; exact List.length_pos_iff.2 h0
      have tn : ¬ s.toList = [] := by rw [toList_bl]; exact h0
      have te : s.toList.isEmpty = false := by
        cases h : s.toList with
        | nil => exact absurd h tn
        | cons => rfl
      have hi : s.size - 1 < s.size := hi' hne
      have hlast : (bl s).getLast? = some (s[s.size - 1]'hi) := by
        rw [List.getLast?_eq_getElem?, hl, List.getElem?_eq_getElem (by omega), bl_get]
      obtain ⟨c, hc⟩ : ∃ c, s[s.size - 1]'hi = c := ⟨_, rfl⟩
      rw [hc] at hlast
      have hidx : ((s.size : Int) - 1).toNat = s.size - 1 := by omega
      have hge : (0 : Int) ≤ (s.size : Int) - 1 := by omega
      have hlt : (s.size : Int) - 1 < (s.size : Int) := by omega
      have hw64 : wrap64 ((u : Int) + 1) = (u : Int) + 1 := w64i (by omega) (by omega)
      by_cases h10 : c = 10
      · have t1 : (((s[s.size - 1]'hi).toNat : Int) != 10) = false := by rw [hc, h10]; rfl
        have hL : linesN (bl s) = u := by unfold linesN; rw [if_neg (by rw [hlast, h10]; simp), hu]; rfl
        have HL := Lib.hid hL
        clear hL h0 hl hu hc hlast h10 hw64
        go_enter Tryz.func8, Tryz.ntmps8
        go_wp2_with fail
        refine (cC _).mono ?_
        rintro e w' ⟨rfl, rfl⟩
        go_upto_region 4 with (fail)
        rename ∀ (a : Act) (w : World), Code.wp Tryz.prog (Code.seq (Code.seq (Code.region 6 _ _) _) _) _ a w → _ => hK
        have HK := Lib.hid hK
        clear hK cC
        go_wp2_with fail
        refine HK.out _ _ ?_
        exact scan_tail (by omega) hT (by rw [HL.out]; rfl)
      · have t1 : (((s[s.size - 1]'hi).toNat : Int) != 10) = true := by
          rw [hc]
          have := u8_neI (k := 10) h10
          simp only [beq_eq_false_iff_ne, ne_eq] at this
          simp only [bne_iff_ne, ne_eq]
          exact this
        have hL : linesN (bl s) = u + 1 := by unfold linesN; rw [if_pos ⟨h0, by rw [hlast]; simpa using h10⟩, hu]
        have HL := Lib.hid hL
        have hui : (u : Int) ≤ 1048576 := by omega
        clear hL h0 hl hu hc hlast h10 hw64
        go_enter Tryz.func8, Tryz.ntmps8
        go_wp2_with fail
        refine (cC _).mono ?_
        rintro e w' ⟨rfl, rfl⟩
        go_upto_region 4 with (fail)
        rename ∀ (a : Act) (w : World), Code.wp Tryz.prog (Code.seq (Code.seq (Code.region 6 _ _) _) _) _ a w → _ => hK
        have HK := Lib.hid hK
        clear hK cC
        go_wp2_with fail
        refine HK.out _ _ ?_
        exact scan_tail (by omega) hT (by rw [HL.out]; rfl)
end Go.Proofs.YtekoeobfddfgpaaGreatDoor.C
set_option linter.unusedVariables false
set_option linter.unusedSimpArgs false
namespace Go.Proofs.YtekoeobfddfgpaaGreatDoor.C
open Go Go.RowKit Go.Shelf Go.Proofs.YtekoeobfddfgpaaGreatDoor.M Go.Proofs.YtekoeobfddfgpaaGreatDoor.Z
structure Toks (W : World) (B : Nat) (v : Value) (l : List UInt8) (xs : List (Nat × List UInt8 × List UInt8)) (g cap : Nat) : Prop where
  v : v = .slice (some ⟨g, 0, none⟩) xs.length cap
  ge : B ≤ g
  lt : g < W.heap.size
  len : xs.length ≤ 9223372036854775807
  c0 : ∀ j y, xs[j]? = some y → W.cell? ⟨g, j * 5, none⟩ = some (.int .i64 (y.1 : Nat))
  c1 : ∀ j y, xs[j]? = some y → W.cell? ⟨g, j * 5 + 1, none⟩ = some (.string (ba y.2.1))
  c2 : ∀ j y, xs[j]? = some y → W.cell? ⟨g, j * 5 + 2, none⟩ = some (.int .i64 ((place l y.2.2).1 : Nat))
  c3 : ∀ j y, xs[j]? = some y → W.cell? ⟨g, j * 5 + 3, none⟩ = some (.int .i64 ((place l y.2.2).2 : Nat))
  c4 : ∀ j y, xs[j]? = some y → W.cell? ⟨g, j * 5 + 4, none⟩ = some (.int .i64 ((l.length - y.2.2.length : Nat) : Int))
theorem flatT_at {l : List UInt8} : ∀ {xs : List (Nat × List UInt8 × List UInt8)} {j : Nat} {y}, xs[j]? = some y → ∀ k, k < 5 → (flatT l xs)[j * 5 + k]? = (tokV l y)[k]? := by
  intro xs
  induction xs with
  | nil => intro j y h; simp at h
  | cons x xs ih =>
    intro j y h k hk
    have e : flatT l (x :: xs) = tokV l x ++ flatT l xs := by simp [flatT]
    have hx : (tokV l x).length = 5 := rfl
    rw [e]
    cases j with
    | zero =>
      simp at h; subst h
      rw [Nat.zero_mul, Nat.zero_add, List.getElem?_append_left (by omega)]
    | succ j =>
      rw [List.getElem?_append_right (by omega), hx, show (j + 1) * 5 + k - 5 = j * 5 + k by omega]
      exact ih (by simpa using h) k hk
theorem toks_of {W : World} {B : Nat} {v : Value} {l : List UInt8} {xs : List (Nat × List UInt8 × List UInt8)} (h : W.ownsRow B 38 5 v xs.length (flatT l xs)) (hn : xs ≠ []) : ∃ g cap, Toks W B v l xs g cap := by
  obtain ⟨g, cap, hv, hb, hlt⟩ := h.form (List.length_pos_iff.2 hn)
  have hm : xs.length ≤ 9223372036854775807 := by
    rcases h.2 with ⟨_, h1⟩ | ⟨g', cap', cur, he, _, _, h1, h2, _⟩
    · omega
    · simp only [maxLen] at h2
      omega
  have hc : ∀ j y k u, xs[j]? = some y → k < 5 → (tokV l y)[k]? = some u → W.cell? ⟨g, j * 5 + k, none⟩ = some u := by
    intro j y k u hj hk hu
    have := h.cells (g := g) (by rw [hv]; rfl) (j * 5 + k) u (by rw [flatT_at hj k hk]; exact hu)
    have hadd : (⟨g, 0, none⟩ : Addr).add (j * 5 + k) = ⟨g, j * 5 + k, none⟩ := by unfold Addr.add; split <;> simp_all
    rwa [hadd] at this
  exact ⟨g, cap, hv, hb, hlt, hm, fun j y hj => hc j y 0 _ hj (by decide) rfl, fun j y hj => hc j y 1 _ hj (by decide) rfl, fun j y hj => hc j y 2 _ hj (by decide) rfl, fun j y hj => hc j y 3 _ hj (by decide) rfl, fun j y hj => hc j y 4 _ hj (by decide) rfl⟩
theorem scan_lt : scanM [97, 32, 60] = ([(1, [97], [97, 32, 60]), (2, [60], [60]), (0, [], [])], none) := by decide +kernel
theorem scan_br : scanM [97, 32, 93] = ([(1, [97], [97, 32, 93])], some (25, [93])) := by decide +kernel
theorem bl_lt : bl ⟨#[97, 32, 60]⟩ = [97, 32, 60] := by decide
theorem bl_br : bl ⟨#[97, 32, 93]⟩ = [97, 32, 93] := by decide
theorem scanE_lt : scanE [97, 32, 60] = none := by decide +kernel
theorem scanE_br : scanE [97, 32, 93] = some (25, 1, 3) := by decide +kernel
set_option maxHeartbeats 4000000 in
set_option maxRecDepth 100000 in
theorem works_any (w : World) (hT : Lib.Utf8Tabs 2 3 w) (hg : w.cell? ⟨1, 0, none⟩ = some (.iface 127 (.agg #[.pointer (some ⟨4, 28, none⟩)]))) :
    Calls Tryz.prog 6 #[] w fun e w' => e = .returned (.bool true) ∧ Below w.heap.size w w' := by
  have cS := scan_any ⟨#[97, 32, 60]⟩ w (by decide) hT
  have hlt : 1 < w.heap.size := cell_blk hg
  have hlt1 : 2 < w.heap.size := cell_blk (hT.1 0 (by decide))
  have hlt2 : 3 < w.heap.size := cell_blk (hT.2 0 (by decide)).1
  go_enter Tryz.func6, Tryz.ntmps6
  go_wp2_with fail
  refine cS.mono ?_
  rintro e w1 ⟨hb1, hr⟩
  simp only [bl_lt, scanE_lt, scan_lt] at hr
  rcases hr with ⟨no, ln, cl, hr, _⟩ | ⟨_, v, rfl, hown⟩
  · cases hr
  obtain ⟨g, cap, hK⟩ := toks_of hown (by simp)
  have hT1 := tabs_below hT hb1 (Nat.le_refl _)
  have cS2 := scan_any ⟨#[97, 32, 93]⟩ w1 (by decide) hT1
  have hv : v = .slice (some ⟨g, 0, none⟩) (3 : Nat) cap := hK.v
  obtain rfl := hv
  clear cS hown
  go_wp2_with fail
  refine cS2.mono ?_
  rintro e w2 ⟨hb2, hr⟩
  simp only [bl_br, scanE_br, scan_br] at hr
  obtain ⟨no, ln, cl, ⟨rfl, rfl, rfl⟩, rfl⟩ : ∃ no ln cl : Nat, (25 = no ∧ 1 = ln ∧ 3 = cl) ∧ e = .returned (.tuple #[.slice none 0 0, Go.Proofs.YtekoeobfddfgpaaGreatDoor.E.flt (no : Nat) (ln : Nat) (cl : Nat)]) := by
    rcases hr with ⟨no, ln, cl, hr, he⟩ | ⟨hr, _⟩
    · exact ⟨no, ln, cl, by simpa using hr, he⟩
    · cases hr
  clear cS2
  have k0 : w2.cell? ⟨g, 1, none⟩ = some (.string ⟨#[97]⟩) := (hb2.cell (p := ⟨g, 1, none⟩) hK.lt).trans (hK.c1 0 _ rfl)
  have k1 := (hb2.cell (p := ⟨g, 5, none⟩) hK.lt).trans (hK.c0 1 _ rfl)
  have hbb := hb1.trans (hb2.mono hb1.size)
  have cA := Go.Proofs.YtekoeobfddfgpaaGreatDoor.E.at_fault 25 1 3 w2 (by decide) (by decide) ((hbb.cell (p := ⟨1, 0, none⟩) hlt).trans hg)
  have hl0 : (0 : Int) ≤ 0 := by decide
  clear hK
  go_wp2_with fail
  all_goals first | (refine cA.mono ?_) | skip
  rintro e w3 ⟨rfl, hb3⟩
  have HB := Lib.hid (hbb.trans (hb3.mono hbb.size))
  clear cA hb3 hbb
  go_wp2_with fail
  all_goals
    go_ret
    exact ⟨rfl, HB.out⟩
end Go.Proofs.YtekoeobfddfgpaaGreatDoor.C
set_option linter.unusedVariables false
set_option linter.unusedSimpArgs false
namespace Go.Proofs.YtekoeobfddfgpaaGreatDoor.C
open Go Go.RowKit Go.Shelf Go.Proofs.YtekoeobfddfgpaaGreatDoor.M Go.Proofs.YtekoeobfddfgpaaGreatDoor.Z
theorem count_snoc {l : List UInt8} {k : Nat} (h : k < l.length) : (l.take (k + 1)).count 10 = (l.take k).count 10 + (if l[k] = 10 then 1 else 0) := by
  rw [List.take_succ_eq_append_getElem h, List.count_append]
  congr 1
  by_cases e : l[k] = 10
  · simp [e]
  · rw [if_neg e, List.count_eq_zero]; simp [Ne.symm e]
set_option maxHeartbeats 4000000 in
set_option maxRecDepth 100000 in
theorem ended_any (s : ByteArray) (w : World) (hs : s.size ≤ 140737488351232) :
    Calls Tryz.prog 61 #[.string s] w fun e w' => e = .returned (.int .i64 ((bl s).count 10 : Nat)) ∧ w' = w := by
  have hl := bl_len s
  have hcl : ∀ k, ((bl s).take k).count 10 ≤ k := fun k => Nat.le_trans List.count_le_length (by rw [List.length_take]; omega)
  obtain ⟨C, hC⟩ : ∃ C : Nat → Nat, ∀ k, C k = ((bl s).take k).count 10 := ⟨fun k => ((bl s).take k).count 10, fun _ => rfl⟩
  have hCl : ∀ k, C k ≤ k := fun k => by rw [hC]; exact hcl k
  have hCs : ∀ k (h : k < s.size), C (k + 1) = C k + (if s[k]'h = 10 then 1 else 0) := by
    intro k h
    rw [hC, hC, count_snoc (by omega), bl_get h]
  have hC0 : C 0 = 0 := by rw [hC]; rfl
  have hCe : C s.size = (bl s).count 10 := by rw [hC, List.take_of_length_le (by omega)]
  rw [← hCe]
  have HC0 := Lib.hid hC0
  clear hCe hC hcl hl hC0
  go_enter Tryz.func61, Tryz.ntmps61
  go_wp2
  go_loopw [3, 4] (fun nv iv wr => ∃ k : Nat, nv = .int .i64 (C k : Nat) ∧ iv = .int .i64 k ∧ k ≤ s.size ∧ wr = w) (fun _ v _ => s.size - (intOf v).toNat)
  case atStart => exact ⟨0, by rw [HC0.out]; rfl, rfl, Nat.zero_le _, rfl⟩
  case round =>
    obtain ⟨k, rfl, rfl, hk, rfl⟩ := hrel
    have hck := hCl k
    by_cases hlt : k < s.size
    · have hst := hCs k hlt
      by_cases hc : (s[k]'hlt) = 10
      · have t1 : ((((s[k]'hlt).toNat : Nat) : Int) == 10) = true := by rw [hc]; rfl
        have HS : Hid (C (k + 1) = C k + 1) := by show _ = _; rw [hst, if_pos hc]
        clear hst hc
        go_wp2
        go_roundw
        case rel => exact ⟨k + 1, by rw [HS.out]; go_num, by go_num, hlt, trivial⟩
        case measure => simp [intOf]; omega
      · have t1 : ((((s[k]'hlt).toNat : Nat) : Int) == 10) = false := u8_neI hc
        have HS : Hid (C (k + 1) = C k) := by show _ = _; rw [hst, if_neg hc]; rfl
        clear hst hc
        go_wp2
        go_roundw
        case rel => exact ⟨k + 1, by rw [HS.out], by go_num, hlt, trivial⟩
        case measure => simp [intOf]; omega
    · obtain rfl : k = s.size := by omega
      go_wp2
      go_ret
      exact ⟨rfl, rfl⟩
theorem Toks.below {W W' : World} {B : Nat} {v : Value} {l : List UInt8} {xs : List (Nat × List UInt8 × List UInt8)} {g cap : Nat} (h : Toks W B v l xs g cap) (hb : Below W.heap.size W W') : Toks W' B v l xs g cap :=
  ⟨h.v, h.ge, Nat.lt_of_lt_of_le h.lt hb.size, h.len, fun j y hj => (hb.cell (p := ⟨g, j * 5, none⟩) h.lt).trans (h.c0 j y hj), fun j y hj => (hb.cell (p := ⟨g, j * 5 + 1, none⟩) h.lt).trans (h.c1 j y hj), fun j y hj => (hb.cell (p := ⟨g, j * 5 + 2, none⟩) h.lt).trans (h.c2 j y hj), fun j y hj => (hb.cell (p := ⟨g, j * 5 + 3, none⟩) h.lt).trans (h.c3 j y hj), fun j y hj => (hb.cell (p := ⟨g, j * 5 + 4, none⟩) h.lt).trans (h.c4 j y hj)⟩
def Laid (w : World) : Prop := Lib.Utf8Tabs 2 3 w ∧ w.cell? ⟨1, 0, none⟩ = some (.iface 127 (.agg #[.pointer (some ⟨4, 28, none⟩)]))
theorem Laid.below {w w' : World} (h : Laid w) (hb : Below w.heap.size w w') : Laid w' :=
  ⟨tabs_below h.1 hb (Nat.le_refl _), (hb.cell (p := ⟨1, 0, none⟩) (cell_blk h.2)).trans h.2⟩
end Go.Proofs.YtekoeobfddfgpaaGreatDoor.C
