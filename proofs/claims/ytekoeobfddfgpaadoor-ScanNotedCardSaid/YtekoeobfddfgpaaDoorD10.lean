/-
  scan.all: what is known at its labels.
-/
import Derived.Test.YtekoeobfddfgpaaDoorD7
import Derived.Test.YtekoeobfddfgpaaDoorD8
import Derived.Test.YtekoeobfddfgpaaDoorD9
import Derived.LoopN
import Derived.Handy
import Derived.WalkMore
set_option linter.unusedVariables false
set_option linter.unusedSimpArgs false
namespace Go.Proofs.YtekoeobfddfgpaaDoor.C
open Go Go.RowKit Go.Shelf Go.Proofs.YtekoeobfddfgpaaDoor.M Go.Proofs.YtekoeobfddfgpaaDoor.Z

def scopeIn : Code → Option Code
  | .scope c => some c
  | .seq a b => match scopeIn a with
    | some c => some c
    | none => scopeIn b
  | .block _ c => scopeIn c
  | _ => none
noncomputable def allScope : Code := (Tryd.f16.body.bind scopeIn).getD .skip
noncomputable def allAt (l : Nat) : Code := (findLabel allScope l).getD .skip
/-- the tokens, as they lie in memory -/
def tokV (l : List UInt8) (x : Nat × List UInt8 × List UInt8) : List Value := tokC (x.1 : Nat) (ba x.2.1) (place l x.2.2).1 (place l x.2.2).2 (l.length - x.2.2.length)
def flatT (l : List UInt8) (xs : List (Nat × List UInt8 × List UInt8)) : List Value := xs.flatMap (tokV l)
/-- what is known at a label: what stands there, and the tokens behind -/
structure AL (w : World) (B b : Nat) (s : ByteArray) (W : World) (t : List UInt8) (done : List (Nat × List UInt8 × List UInt8)) (p ln cl : Nat) (v : Value) : Prop where
  sc : Sc W B b s p ln cl v done.length (flatT (bl s) done)
  dt : (bl s).drop p = t
  ch : Ch (bl s) t
  pl : place (bl s) t = (ln, cl)
  sm : scanM (bl s) = (done ++ (scanM t).1, (scanM t).2)
  dn : done.length ≤ p
  bel : Below B w W
/-- the frame at a label -/
def aFr (b : Nat) (g : Nat → Value) : Array Value := #[.pointer (some ⟨b, 0, none⟩), g 1, g 2, g 3, g 4, g 5, g 6, g 7, g 8, g 9, g 10, g 11, g 12, g 13, g 14, g 15, g 16, g 17, g 18, g 19, g 20, g 21, g 22, g 23, g 24, g 25, g 26, g 27, g 28, g 29, g 30, g 31, g 32, g 33, g 34, g 35, g 36, g 37, g 38, g 39, g 40, g 41, g 42, g 43, g 44, g 45, g 46, g 47, g 48, g 49, g 50, g 51, g 52, g 53, g 54, g 55, g 56, g 57, g 58, g 59, g 60, g 61, g 62, g 63, g 64, g 65, g 66, g 67, g 68, g 69, g 70, g 71, g 72, g 73, g 74, g 75, g 76, g 77, g 78, g 79, g 80, g 81, g 82, g 83, g 84, g 85, g 86, g 87, g 88, g 89, g 90, g 91, g 92, g 93, g 94, g 95, g 96, g 97]
def firstReg : Code → Option Nat
  | .region i _ _ => some i
  | .seq a _ => firstReg a
  | .block _ c => firstReg c
  | .loop c => firstReg c
  | .scope c => firstReg c
  | _ => none
/-- what stands from region n's statement on -/
def sufAt (n : Nat) : Code → Option Code
  | .region i o d => if i == n then some (.region i o d) else none
  | .seq a b => if firstReg a == some n then some (.seq a b) else match sufAt n a with
    | some c => some c
    | none => sufAt n b
  | .cond _ a b => match sufAt n a with
    | some c => some c
    | none => sufAt n b
  | .block _ c => sufAt n c
  | .loop c => sufAt n c
  | .rangeFunc _ _ _ c => sufAt n c
  | .scope c => sufAt n c
  | _ => none
/-- what stands behind a label -/
noncomputable def allX (n : Nat) : Code := (sufAt n allScope).getD .skip
/-- the frame at the switch -/
def kFr (b : Nat) (d : Nat) (g : Nat → Value) : Array Value := #[.pointer (some ⟨b, 0, none⟩), g 1, g 2, g 3, g 4, g 5, .int .i32 (d : Nat), g 7, g 8, g 9, g 10, g 11, g 12, g 13, g 14, g 15, g 16, g 17, g 18, g 19, g 20, g 21, g 22, g 23, g 24, g 25, g 26, g 27, g 28, g 29, g 30, g 31, g 32, g 33, g 34, g 35, g 36, g 37, g 38, g 39, g 40, g 41, g 42, g 43, g 44, g 45, g 46, g 47, g 48, g 49, g 50, g 51, g 52, g 53, g 54, g 55, g 56, g 57, g 58, g 59, g 60, g 61, g 62, g 63, g 64, g 65, g 66, g 67, g 68, g 69, g 70, g 71, g 72, g 73, g 74, g 75, g 76, g 77, g 78, g 79, g 80, g 81, g 82, g 83, g 84, g 85, g 86, g 87, g 88, g 89, g 90, g 91, g 92, g 93, g 94, g 95, g 96, g 97]
def LabOK : Nat → List UInt8 → Prop
  | 1, u => ∃ r, u = 35 :: r
  | 2, u => ∃ r, u = 91 :: r
  | 3, u => ∃ c r, u = c :: r ∧ (c = 38 ∨ c = 60 ∨ c = 61 ∨ c = 47 ∨ c = 45)
  | 4, u => ∃ c r, u = c :: r ∧ blk c = false ∧ c ≠ 35 ∧ c ≠ 91 ∧ c ≠ 93 ∧ c ≠ 42 ∧ ¬ (c = 38 ∨ c = 60 ∨ c = 61 ∨ c = 47 ∨ c = 45)
  | _, _ => False
/-- what scan.all answers -/
def AllP (w : World) (B b : Nat) (s : ByteArray) (x : Value) (W' : World) : Prop :=
  ((scanM (bl s)).2 = none → x = .nilIface ∧ ∃ p ln cl v, Sc W' B b s p ln cl v (scanM (bl s)).1.length (flatT (bl s) (scanM (bl s)).1)) ∧
  (∀ no u, (scanM (bl s)).2 = some (no, u) → x = Go.Proofs.YtekoeobfddfgpaaDoor.E.flt (no : Nat) (place (bl s) u).1 (place (bl s) u).2) ∧ Below B w W'
theorem dc_eq {c k : UInt8} (r : List UInt8) (hk : k.toNat < 128) (h : c = k) : (((dc (c :: r) : Nat) : Int) == (k.toNat : Int)) = true := by
  subst h
  have := (b0_unit (l := c :: r) (by simp) hk).2
  rw [this]; simp [b0]
theorem dc_ne {c k : UInt8} (r : List UInt8) (hk : k.toNat < 128) (h : c ≠ k) : (((dc (c :: r) : Nat) : Int) == (k.toNat : Int)) = false := by
  simp only [beq_eq_false_iff_ne, ne_eq]
  intro e
  have e : dc (c :: r) = k.toNat := by omega
  have f := d_facts (l := c :: r) (by simp)
  rcases Nat.lt_or_ge (b0 (c :: r)) 128 with hlt | hge
  · have := (b0_unit (l := c :: r) (by simp) hlt).2
    rw [this] at e
    exact h (UInt8.toNat_inj.1 e)
  · rcases Nat.lt_or_ge (dw (c :: r)) 2 with h2 | h2
    · have := f.2.2.2.2.1 (by omega); omega
    · have := (f.2.2.2.2.2.1 h2).2; omega
theorem AL.fault {w W W' : World} {B b : Nat} {s : ByteArray} {u : List UInt8} {done : List (Nat × List UInt8 × List UInt8)} {p ln cl : Nat} {v : Value} (h : AL w B b s W u done p ln cl v) (hne : past u = u) {c : UInt8} {r : List UInt8} (hu : u = c :: r) {no k : Nat} (ho : oneM u = .bad no k) (hk : Keeps (fun k => k = b) W W') :
    AllP w B b s (Go.Proofs.YtekoeobfddfgpaaDoor.E.flt (no : Nat) (place (bl s) (u.drop k)).1 (place (bl s) (u.drop k)).2) W' := by
  have h1 := scanM_bad (t := u) (by rw [hne, hu]; simp) (by rw [hne]; exact ho)
  have h2 : (scanM (bl s)).2 = some (no, u.drop k) := by rw [h.sm, h1, hne]
  refine ⟨fun e => (by rw [h2] at e; cases e), fun no' u' e => ?_, h.bel.trans (hk.below (Nat.le_trans h.sc.le (Nat.le_of_lt (lt_of_obj h.sc.blk))) (fun k e => by rw [e]; exact h.sc.le))⟩
  rw [h2] at e
  injection e with e
  injection e with e1 e2
  subst e1
  subst e2
  rfl
set_option maxHeartbeats 4000000 in
set_option maxRecDepth 100000 in
theorem all_switch {w W : World} {B b : Nat} {s : ByteArray} {u : List UInt8} {done : List (Nat × List UInt8 × List UInt8)} {p ln cl : Nat} {v : Value} {tm : Array Value} {Q : Exit → Act → World → Prop} (hA : AL w B b s W u done p ln cl v) {c : UInt8} {r : List UInt8} (hu : u = c :: r) (hb : blk c = false)
    (htm : tm = kFr b (dc u) (fun i => tm.getD i undef))
    (hret : ∀ a' W' x, a'.tmps = aFr b (fun i => a'.tmps.getD i undef) → a'.tmps.getD 2 undef = x → a'.defers = [] → AllP w B b s x W' → Q .ret a' W')
    (hgo : ∀ k a', a'.tmps = aFr b (fun i => a'.tmps.getD i undef) → a'.defers = [] → LabOK k u → Q (.goto k) a' W) :
    (allX 12).wp Tryd.prog Q { tmps := tm, defers := [] } W := by
  generalize (fun i => tm.getD i undef) = g at htm
  subst htm
  unfold kFr
  conv => arg 2; whnf
  have cF := fun no => fault_any hA.sc no
  have hpu : c ≠ 35 → past u = u := fun h => by
    rw [past_eq, hu, List.dropWhile_cons, hb]
    simp [h]
  by_cases h35 : c = 35
  · have t35 : (((dc u : Nat) : Int) == 35) = true := by rw [hu]; exact dc_eq (k := 35) r (by decide) h35
    have hok : Hid (LabOK 1 u) := Lib.hid (by rw [hu, h35]; exact ⟨r, rfl⟩)
    generalize dc u = d at *
    clear cF hpu hA
    go_wp2_with fail
    go_step3
    exact hgo 1 _ rfl rfl hok.out
  · have n35 : c ≠ 35 := h35
    by_cases h91 : c = 91
    · have t35 : (((dc u : Nat) : Int) == 35) = false := by rw [hu]; exact dc_ne (k := 35) r (by decide) n35
      have t91 : (((dc u : Nat) : Int) == 91) = true := by rw [hu]; exact dc_eq (k := 91) r (by decide) h91
      have hok : Hid (LabOK 2 u) := Lib.hid (by rw [hu, h91]; exact ⟨r, rfl⟩)
      generalize dc u = d at *
      clear cF hpu hA
      go_wp2_with fail
      go_step3
      exact hgo 2 _ rfl rfl hok.out
    · have n91 : c ≠ 91 := h91
      by_cases h93 : c = 93
      · have t35 : (((dc u : Nat) : Int) == 35) = false := by rw [hu]; exact dc_ne (k := 35) r (by decide) n35
        have t91 : (((dc u : Nat) : Int) == 91) = false := by rw [hu]; exact dc_ne (k := 91) r (by decide) n91
        have t93 : (((dc u : Nat) : Int) == 93) = true := by rw [hu]; exact dc_eq (k := 93) r (by decide) h93
        have ho : oneM u = .bad 25 0 := by rw [hu, h93]; rfl
        have hf := fun W' (hk : Keeps (fun k => k = b) W W') => hA.fault (hpu n35) hu ho hk
        have hpl := hA.pl
        rw [List.drop_zero, hpl] at hf
        have Hf := Lib.hid hf
        generalize dc u = d at *
        clear hf hpl hpu hA ho
        go_wp2_with fail
        refine (cF _).mono ?_
        rintro e w' ⟨rfl, q, rfl⟩
        go_wp2_with fail
        exact hret _ _ _ rfl rfl rfl (Hf.out _ (Keeps.drewN _ _ _))
      · have n93 : c ≠ 93 := h93
        by_cases h42 : c = 42
        · have t35 : (((dc u : Nat) : Int) == 35) = false := by rw [hu]; exact dc_ne (k := 35) r (by decide) n35
          have t91 : (((dc u : Nat) : Int) == 91) = false := by rw [hu]; exact dc_ne (k := 91) r (by decide) n91
          have t93 : (((dc u : Nat) : Int) == 93) = false := by rw [hu]; exact dc_ne (k := 93) r (by decide) n93
          have t42 : (((dc u : Nat) : Int) == 42) = true := by rw [hu]; exact dc_eq (k := 42) r (by decide) h42
          have ho : oneM u = .bad 4 0 := by rw [hu, h42]; rfl
          have hf := fun W' (hk : Keeps (fun k => k = b) W W') => hA.fault (hpu n35) hu ho hk
          have hpl := hA.pl
          rw [List.drop_zero, hpl] at hf
          have Hf := Lib.hid hf
          generalize dc u = d at *
          clear hf hpl hpu hA ho
          go_wp2_with fail
          refine (cF _).mono ?_
          rintro e w' ⟨rfl, q, rfl⟩
          go_wp2_with fail
          exact hret _ _ _ rfl rfl rfl (Hf.out _ (Keeps.drewN _ _ _))
        · have n42 : c ≠ 42 := h42
          by_cases h38 : c = 38
          · have t35 : (((dc u : Nat) : Int) == 35) = false := by rw [hu]; exact dc_ne (k := 35) r (by decide) n35
            have t91 : (((dc u : Nat) : Int) == 91) = false := by rw [hu]; exact dc_ne (k := 91) r (by decide) n91
            have t93 : (((dc u : Nat) : Int) == 93) = false := by rw [hu]; exact dc_ne (k := 93) r (by decide) n93
            have t42 : (((dc u : Nat) : Int) == 42) = false := by rw [hu]; exact dc_ne (k := 42) r (by decide) n42
            have t38 : (((dc u : Nat) : Int) == 38) = true := by rw [hu]; exact dc_eq (k := 38) r (by decide) h38
            have hok : Hid (LabOK 3 u) := Lib.hid ⟨c, r, hu, by simp [h38]⟩
            generalize dc u = d at *
            clear cF hpu hA
            go_wp2_with fail
            go_step3
            exact hgo 3 _ rfl rfl hok.out
          · have n38 : c ≠ 38 := h38
            by_cases h60 : c = 60
            · have t35 : (((dc u : Nat) : Int) == 35) = false := by rw [hu]; exact dc_ne (k := 35) r (by decide) n35
              have t91 : (((dc u : Nat) : Int) == 91) = false := by rw [hu]; exact dc_ne (k := 91) r (by decide) n91
              have t93 : (((dc u : Nat) : Int) == 93) = false := by rw [hu]; exact dc_ne (k := 93) r (by decide) n93
              have t42 : (((dc u : Nat) : Int) == 42) = false := by rw [hu]; exact dc_ne (k := 42) r (by decide) n42
              have t38 : (((dc u : Nat) : Int) == 38) = false := by rw [hu]; exact dc_ne (k := 38) r (by decide) n38
              have t60 : (((dc u : Nat) : Int) == 60) = true := by rw [hu]; exact dc_eq (k := 60) r (by decide) h60
              have hok : Hid (LabOK 3 u) := Lib.hid ⟨c, r, hu, by simp [h60]⟩
              generalize dc u = d at *
              clear cF hpu hA
              go_wp2_with fail
              go_step3
              exact hgo 3 _ rfl rfl hok.out
            · have n60 : c ≠ 60 := h60
              by_cases h61 : c = 61
              · have t35 : (((dc u : Nat) : Int) == 35) = false := by rw [hu]; exact dc_ne (k := 35) r (by decide) n35
                have t91 : (((dc u : Nat) : Int) == 91) = false := by rw [hu]; exact dc_ne (k := 91) r (by decide) n91
                have t93 : (((dc u : Nat) : Int) == 93) = false := by rw [hu]; exact dc_ne (k := 93) r (by decide) n93
                have t42 : (((dc u : Nat) : Int) == 42) = false := by rw [hu]; exact dc_ne (k := 42) r (by decide) n42
                have t38 : (((dc u : Nat) : Int) == 38) = false := by rw [hu]; exact dc_ne (k := 38) r (by decide) n38
                have t60 : (((dc u : Nat) : Int) == 60) = false := by rw [hu]; exact dc_ne (k := 60) r (by decide) n60
                have t61 : (((dc u : Nat) : Int) == 61) = true := by rw [hu]; exact dc_eq (k := 61) r (by decide) h61
                have hok : Hid (LabOK 3 u) := Lib.hid ⟨c, r, hu, by simp [h61]⟩
                generalize dc u = d at *
                clear cF hpu hA
                go_wp2_with fail
                go_step3
                exact hgo 3 _ rfl rfl hok.out
              · have n61 : c ≠ 61 := h61
                by_cases h47 : c = 47
                · have t35 : (((dc u : Nat) : Int) == 35) = false := by rw [hu]; exact dc_ne (k := 35) r (by decide) n35
                  have t91 : (((dc u : Nat) : Int) == 91) = false := by rw [hu]; exact dc_ne (k := 91) r (by decide) n91
                  have t93 : (((dc u : Nat) : Int) == 93) = false := by rw [hu]; exact dc_ne (k := 93) r (by decide) n93
                  have t42 : (((dc u : Nat) : Int) == 42) = false := by rw [hu]; exact dc_ne (k := 42) r (by decide) n42
                  have t38 : (((dc u : Nat) : Int) == 38) = false := by rw [hu]; exact dc_ne (k := 38) r (by decide) n38
                  have t60 : (((dc u : Nat) : Int) == 60) = false := by rw [hu]; exact dc_ne (k := 60) r (by decide) n60
                  have t61 : (((dc u : Nat) : Int) == 61) = false := by rw [hu]; exact dc_ne (k := 61) r (by decide) n61
                  have t47 : (((dc u : Nat) : Int) == 47) = true := by rw [hu]; exact dc_eq (k := 47) r (by decide) h47
                  have hok : Hid (LabOK 3 u) := Lib.hid ⟨c, r, hu, by simp [h47]⟩
                  generalize dc u = d at *
                  clear cF hpu hA
                  go_wp2_with fail
                  go_step3
                  exact hgo 3 _ rfl rfl hok.out
                · have n47 : c ≠ 47 := h47
                  by_cases h45 : c = 45
                  · have t35 : (((dc u : Nat) : Int) == 35) = false := by rw [hu]; exact dc_ne (k := 35) r (by decide) n35
                    have t91 : (((dc u : Nat) : Int) == 91) = false := by rw [hu]; exact dc_ne (k := 91) r (by decide) n91
                    have t93 : (((dc u : Nat) : Int) == 93) = false := by rw [hu]; exact dc_ne (k := 93) r (by decide) n93
                    have t42 : (((dc u : Nat) : Int) == 42) = false := by rw [hu]; exact dc_ne (k := 42) r (by decide) n42
                    have t38 : (((dc u : Nat) : Int) == 38) = false := by rw [hu]; exact dc_ne (k := 38) r (by decide) n38
                    have t60 : (((dc u : Nat) : Int) == 60) = false := by rw [hu]; exact dc_ne (k := 60) r (by decide) n60
                    have t61 : (((dc u : Nat) : Int) == 61) = false := by rw [hu]; exact dc_ne (k := 61) r (by decide) n61
                    have t47 : (((dc u : Nat) : Int) == 47) = false := by rw [hu]; exact dc_ne (k := 47) r (by decide) n47
                    have t45 : (((dc u : Nat) : Int) == 45) = true := by rw [hu]; exact dc_eq (k := 45) r (by decide) h45
                    have hok : Hid (LabOK 3 u) := Lib.hid ⟨c, r, hu, by simp [h45]⟩
                    generalize dc u = d at *
                    clear cF hpu hA
                    go_wp2_with fail
                    go_step3
                    exact hgo 3 _ rfl rfl hok.out
                  · have n45 : c ≠ 45 := h45
                    have t35 : (((dc u : Nat) : Int) == 35) = false := by rw [hu]; exact dc_ne (k := 35) r (by decide) n35
                    have t91 : (((dc u : Nat) : Int) == 91) = false := by rw [hu]; exact dc_ne (k := 91) r (by decide) n91
                    have t93 : (((dc u : Nat) : Int) == 93) = false := by rw [hu]; exact dc_ne (k := 93) r (by decide) n93
                    have t42 : (((dc u : Nat) : Int) == 42) = false := by rw [hu]; exact dc_ne (k := 42) r (by decide) n42
                    have t38 : (((dc u : Nat) : Int) == 38) = false := by rw [hu]; exact dc_ne (k := 38) r (by decide) n38
                    have t60 : (((dc u : Nat) : Int) == 60) = false := by rw [hu]; exact dc_ne (k := 60) r (by decide) n60
                    have t61 : (((dc u : Nat) : Int) == 61) = false := by rw [hu]; exact dc_ne (k := 61) r (by decide) n61
                    have t47 : (((dc u : Nat) : Int) == 47) = false := by rw [hu]; exact dc_ne (k := 47) r (by decide) n47
                    have t45 : (((dc u : Nat) : Int) == 45) = false := by rw [hu]; exact dc_ne (k := 45) r (by decide) n45
                    have hok : Hid (LabOK 4 u) := Lib.hid ⟨c, r, hu, hb, n35, n91, n93, n42, by simp [n38, n60, n61, n47, n45]⟩
                    generalize dc u = d at *
                    clear cF hpu hA
                    go_wp2_with fail
                    go_step3
                    exact hgo 4 _ rfl rfl hok.out
end Go.Proofs.YtekoeobfddfgpaaDoor.C
