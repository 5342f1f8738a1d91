/-
  Of this seat's texts what the claim wants (printed by a program): JX.
-/
import Derived.Test.YtlomjbfhalmalaaGreatDoorqJW
import Derived.Test.YtlomjbfhalmalaaGreatDoorqJU
set_option linter.unusedVariables false
set_option linter.unusedSimpArgs false
namespace Go.Proofs.YtlomjbfhalmalaaGreatDoor.C
open Go Go.RowKit Go.Shelf Go.Proofs.YtlomjbfhalmalaaGreatDoor.M Go.Proofs.YtlomjbfhalmalaaGreatDoor.Z Go.Proofs.YtlomjbfhalmalaaGreatDoor.H Go.Proofs.YtlomjbfhalmalaaGreatDoor.PAll Go.Proofs.YtlomjbfhalmalaaGreatDoorW.PrintWords Go.Proofs.YtlomjbfhalmalaaGreatDoorW.PrintLast Go.Proofs.YtlomjbfhalmalaaGreatDoorW.PrintMore
set_option maxHeartbeats 4000000 in
theorem likes_any (w : World) (hT' : hT w) (hE : HE w) (s t : ByteArray) (hs : s.size ≤ 140737488351232) (ht : t.size ≤ 140737488351232) :
    Calls Tryz.prog 4 #[.string s, .string t] w fun e w' => e = .returned (.bool true) ∧ Below w.heap.size w w' := by
  go_enter Tryz.func4, Tryz.ntmps4
  by_cases hb : 2000 < (s.size : Int) ∨ 2000 < (t.size : Int)
  · go_wp2_with fail
    all_goals (try go_ret)
    all_goals first | exact ⟨rfl, Below.refl _ _⟩ | skip
  · have hs' : s.size ≤ 2000 := by omega
    have ht' : t.size ≤ 2000 := by omega
    have b1 : ¬ (2000 : Int) < (s.size : Int) := by omega
    have b2 : ¬ (2000 : Int) < (t.size : Int) := by omega
    obtain ⟨k, hk⟩ := ref_like s t (by omega) (by omega)
    have cL := fun W => like_any s t W (by omega) (by omega)
    have cR := fun W => glossaryref28_Like.calls k s t _ W hk
    clear hb hk
    generalize glob (toks (pts (bl s))) (pts (bl t)) = r at cL cR
    go_wp2_with fail
    refine (cL _).mono ?_
    rintro e w1 ⟨rfl, hb1⟩
    clear cL
    go_wp2_with fail
    refine (cR _).mono ?_
    rintro e w2 ⟨rfl, hb2⟩
    clear cR
    have k2 := (Keeps.of_below0 hb1).trans (Keeps.of_below0 hb2) (fun _ _ h => h)
    have cW := works_any w2 (hT_keeps hT' k2 (fun h => h) (fun h => h)) (k2.cell hE (fun h => h))
    go_wp2_with fail
    refine cW.mono ?_
    rintro e w3 ⟨rfl, hb3⟩
    have fin : Below w.heap.size w w3 := (k2.trans (Keeps.of_below0 hb3) (fun _ _ h => h)).below (Nat.le_refl _) (fun _ h => h.elim)
    clear cW
    go_wp2_with fail
    go_ret
    exact ⟨rfl, fin⟩
theorem law_QueryLikes (w : World) (hT : Lib.Utf8Tabs 1 2 w) (hE : HE w) (s : ByteArray) (hs : s.size ≤ 140737488351232) (t : ByteArray) (ht : t.size ≤ 140737488351232) :
    Calls Tryz.prog 4 #[.string s, .string t] w fun e w' => e = .returned (.bool true) ∧ Below w.heap.size w w' :=
  likes_any w hT hE s t hs ht
end Go.Proofs.YtlomjbfhalmalaaGreatDoor.C
