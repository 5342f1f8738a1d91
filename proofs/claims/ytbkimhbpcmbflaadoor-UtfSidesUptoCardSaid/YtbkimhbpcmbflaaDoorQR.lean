/-
  A quiet region inside a round of a loop over a function.
-/
import Derived.Test.YtbkimhbpcmbflaaDoorV1
set_option linter.unusedVariables false
set_option linter.unusedSimpArgs false
namespace Go.Proofs.YtbkimhbpcmbflaaDoor.Z
open Go Go.RowKit

section
variable {F : Fence} {n : Nat} {P : Program} {ops : Array Oper} {Q : Exit → Act → World → Prop}
def noDefer (l : List Oper) : Bool := l.all fun o => match o.op with | .defer _ => false | _ => true
theorem noDefer_get {l : List Oper} (h : noDefer l = true) {i : Nat} {o : Oper} (ho : l.toArray[i]? = some o) : ∀ c, o.op ≠ .defer c := by
  intro c e
  have hm : o ∈ l := by
    have h2 : l[i]? = some o := by simpa using ho
    exact List.mem_of_getElem? h2
  have := List.all_eq_true.1 h o hm
  rw [e] at this
  cases this
theorem uponIn_round {o : Oper} {a : Act} {next : Act → World → Prop} {r : Result Next} (l₀ : Nat) (h : o.uponIn F n P a next Q r) : o.uponIn (F.inRound l₀) n P a next Q r := h
theorem wpOpsIn_round {l : List Oper} (l₀ : Nat) (hro : F.round = none) (hd : noDefer l = true) : ∀ (is : List Nat) (a : Act) (w : World), wpOpsIn F n P l.toArray Q is a w → wpOpsIn (F.inRound l₀) n P l.toArray Q is a w
  | [], a, w, h => h
  | i :: rest, a, w, h => by
    rw [wpOpsIn_cons] at h ⊢
    unfold wpOpIn at h ⊢
    cases ho : l.toArray[i]? with
    | none =>
      simp only [ho] at h ⊢
      exact wpOpsIn_round l₀ hro hd rest a w h
    | some o =>
      simp only [ho] at h ⊢
      have nd := noDefer_get hd ho
      by_cases hw : Region.wanted o (yielded l.toArray a.tmps) = true
      · rw [if_pos hw] at h ⊢
        have h := Oper.wpIn_mono (fun a w h => wpOpsIn_round l₀ hro hd rest a w h) h
        unfold Oper.wpIn at h ⊢
        refine ⟨h.1, ?_⟩
        have h2 := h.2
        rw [Oper.semAt_eq _ _ _ nd] at h2 ⊢
        exact uponIn_round l₀ h2
      · rw [if_neg hw] at h ⊢
        exact ⟨h.1, wpOpsIn_round l₀ hro hd rest _ w h.2⟩
/-- a quiet region, in a round -/
theorem wpIn_region_quiet_round {id : Nat} {a : Act} {w : World} {l : List Oper} {l₀ : Nat} (hro : F.round = none) (hm : P.follows .mixedOrders = true) (hB : Region.lexB .any l.toArray = true) (hd : noDefer l = true)
    (h : wpQuietIn F n P l.toArray (fun w' => ∃ n, w' = w.drewN n) (fun a' => ∀ w', (∃ n, w' = w.drewN n) → Q .normal a' w') l a) : (Code.region id l.toArray true).wpIn (F.inRound l₀) n P Q a w := by
  simp only [Region.lexB, Bool.and_eq_true] at hB
  have hC : (fun w' => ∃ n, w' = w.drewN n) { w with drawn := w.drawn + 1 } := ⟨1, rfl⟩
  have h2 := wpAnyQIn_lex (F := F) (n := n) (C := (fun w' => ∃ n, w' = w.drewN n)) (md := .any) hB.1 l 0 (Array.replicate l.toArray.size false) a (by simp) (by simpa using hB.2) (by simpa using h)
  have h3 : wpAnyIn F n P .any l.toArray Q l.toArray.size (Array.replicate l.toArray.size false) a { w with drawn := w.drawn + 1 } :=
    wpAnyIn_of_quiet (Q := fun a' => ∀ w', (∃ n, w' = w.drewN n) → Q .normal a' w') hro (fun _ w' hw' h => h w' hw') _ _ _ _ hC (by simpa using h2)
  refine wpIn_region_draw fun t => ?_
  refine wpOpsIn_round l₀ hro hd _ _ _ ?_
  simp only [Region.schedule, hm, Bool.true_or, if_true]
  exact wpAnyIn_sound _ t _ a _ h3
end
end Go.Proofs.YtbkimhbpcmbflaaDoor.Z
