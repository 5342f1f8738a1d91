/-
  glossarykit.ApartRunes: lists of the call's own, each in blocks of its own, are found apart.
-/
import Derived.Test.YtbkimhbpcmbflaaDoorGA
import Derived.Test.YtbkimhbpcmbflaaDoorAP
import Derived.StillTailTactics
import Derived.OwnWalk
set_option linter.unusedVariables false
set_option linter.unusedSimpArgs false
namespace Go.Proofs.YtbkimhbpcmbflaaDoor.C
open Go Go.RowKit Go.Proofs.YtbkimhbpcmbflaaDoor.M Go.Proofs.YtbkimhbpcmbflaaDoor.E

/-- a mark -/
def mkI (k i : Int) : Int := -1000 * (k + 1) - i
set_option maxHeartbeats 1000000 in
theorem mark_any (k i : Int) (hk0 : 0 ≤ k) (hk : k ≤ 1000) (hi0 : 0 ≤ i) (hi : i ≤ 4000000) (w : World) :
    Calls Tryd.prog 77 #[.int .i64 k, .int .i64 i] w fun e w' => e = .returned (.int .i32 (mkI k i)) ∧ w = w' := by
  have h1 : wrap32 (k + 1) = k + 1 := w32 (by omega) (by omega)
  have h2 : wrap32 i = i := w32 (by omega) (by omega)
  have h3 : wrap32 (-1000 * (k + 1)) = -1000 * (k + 1) := w32 (by omega) (by omega)
  have h4 : wrap32 (-1000 * (k + 1) - i) = -1000 * (k + 1) - i := w32 (by omega) (by omega)
  go_enter Tryd.func77, Tryd.ntmps77
  go_wp2
  go_ret
  exact ⟨rfl, rfl⟩
def mkL (k n : Nat) : List Int := (List.range n).map fun i => mkI k (i : Nat)
theorem mkL_len (k n : Nat) : (mkL k n).length = n := by simp [mkL]
theorem mkL_succ (k n : Nat) : mkL k (n + 1) = mkL k n ++ [mkI k (n : Nat)] := by simp [mkL, List.range_succ]
theorem mkL_get {k n i : Nat} (h : i < n) : (mkL k n)[i]? = some (mkI k (i : Nat)) := by simp [mkL, h]
abbrev cI (xs : List Int) : List Value := xs.map (Value.int .i32)

section
variable (W0 : World) (base lb m : Nat) (ax : Nat → Option Addr) (ns cs : Nat → Nat)
abbrev vAt (ax : Nat → Option Addr) (ns cs : Nat → Nat) (j : Nat) : Value := .slice (ax j) (ns j) (cs j)
/-- where the first part of the marking has come to: of list j the first 'd j' are marked -/
structure Ph (cls : Nat → Nat) (d : Nat → Nat) (wr : World) : Prop where
  below : Below base W0 wr
  size : base ≤ W0.heap.size
  lbl : lb < W0.heap.size
  lst : ∀ j, j < m → wr.cell? ⟨lb, j, none⟩ = some (vAt ax ns cs j)
  lbc : cls lb = 100
  row : ∀ j, j < m → ∃ xs : List Int, wr.ownsRow base 21 1 (vAt ax ns cs j) (ns j) (cI xs) ∧ ∀ t, t < d j → xs[t]? = some (mkI j (t : Nat))
  cl : ∀ j, j < m → ∀ b, (vAt ax ns cs j).ownBlock = some b → cls b = j
end
section
variable {W0 : World} {base lb m : Nat} {ax : Nat → Option Addr} {ns cs : Nat → Nat} {cls d : Nat → Nat} {wr : World}
theorem Ph.congr (h : Ph W0 base lb m ax ns cs cls d wr) {d' : Nat → Nat} (hd : ∀ j, j < m → d' j ≤ d j) : Ph W0 base lb m ax ns cs cls d' wr :=
  ⟨h.below, h.size, h.lbl, h.lst, h.lbc, fun j hj => by obtain ⟨xs, h1, h2⟩ := h.row j hj; exact ⟨xs, h1, fun t ht => h2 t (Nat.lt_of_lt_of_le ht (hd j hj))⟩, h.cl⟩
theorem Ph.drew (h : Ph W0 base lb m ax ns cs cls d wr) : Ph W0 base lb m ax ns cs cls d wr.drew :=
  ⟨h.below.drew, h.size, h.lbl, h.lst, h.lbc, fun j hj => by obtain ⟨xs, h1, h2⟩ := h.row j hj; exact ⟨xs, h1.drew, h2⟩, h.cl⟩
theorem Ph.form (h : Ph W0 base lb m ax ns cs cls d wr) {j : Nat} (hj : j < m) (h0 : 0 < ns j) : ∃ g, ax j = some ⟨g, 0, none⟩ ∧ base ≤ g ∧ g < wr.heap.size ∧ cls g = j := by
  obtain ⟨xs, h1, _⟩ := h.row j hj
  obtain ⟨g, cap, e, hb, hlt⟩ := h1.form h0
  have e' : ax j = some ⟨g, 0, none⟩ := by injection e
  exact ⟨g, e', hb, hlt, h.cl j hj g (by simp [vAt, Value.ownBlock, e'])⟩
theorem Ph.cellAt (h : Ph W0 base lb m ax ns cs cls d wr) {j g i : Nat} (hj : j < m) (hg : ax j = some ⟨g, 0, none⟩) (hi : i < ns j) :
    (∃ old, wr.cell? ⟨g, i, none⟩ = some old) ∧ wr.frozen? ⟨g, i, none⟩ = false := by
  obtain ⟨xs, h1, _⟩ := h.row j hj
  have e : vAt ax ns cs j = .slice (some ⟨g, 0, none⟩) (ns j) (cs j) := by simp [vAt, hg]
  rw [e] at h1
  refine ⟨?_, h1.frozenAt i⟩
  have hl := h1.1
  rw [h1.cellAt i (by omega)]
  exact ⟨_, List.getElem?_eq_getElem (by omega)⟩
theorem Ph.lt (h : Ph W0 base lb m ax ns cs cls d wr) {j : Nat} (hj : j < m) : lb < wr.heap.size := cell_blk (h.lst j hj)
theorem Ph.store (h : Ph W0 base lb m ax ns cs cls d wr) (hm : m ≤ 16) {k i g : Nat} (hk : k < m) (hi : i < ns k) (hd : i ≤ d k) (hg : ax k = some ⟨g, 0, none⟩) {d' : Nat → Nat} (hd' : ∀ j, j < m → d' j ≤ if j = k then i + 1 else d j) :
    Ph W0 base lb m ax ns cs cls d' (wr.setCell ⟨g, i, none⟩ (.int .i32 (mkI k (i : Nat)))) := by
  have hck : cls g = k := h.cl k hk g (by simp [vAt, Value.ownBlock, hg])
  obtain ⟨xk, hk1, hk2⟩ := h.row k hk
  have hgb : base ≤ g := by
    have := hk1.lt g (by simp [vAt, Value.ownBlock, hg])
    omega
  have hkr : wr.ownsRow base 21 1 (.slice (some ⟨g, 0, none⟩) (ns k) (cs k)) (ns k) (cI xk) := by
    have : vAt ax ns cs k = .slice (some ⟨g, 0, none⟩) (ns k) (cs k) := by simp [vAt, hg]
    rw [this] at hk1; exact hk1
  obtain ⟨hs1, hs2⟩ := hkr.stored i (.int .i32 (mkI k (i : Nat)))
  refine ⟨h.below.setCell (p := ⟨g, i, none⟩) hgb _, h.size, h.lbl, fun j hj => ?_, h.lbc, fun j hj => ?_, h.cl⟩
  · have hne : lb ≠ g := by intro e; have := h.lbc; rw [e, hck] at this; omega
    exact (World.cell?_of_block (Below.heap_setCell wr ⟨g, i, none⟩ _ lb hne)).trans (h.lst j hj)
  · by_cases hjk : j = k
    · subst hjk
      refine ⟨xk.set i (mkI j (i : Nat)), ?_, fun t ht => ?_⟩
      · have e : vAt ax ns cs j = .slice (some ⟨g, 0, none⟩) (ns j) (cs j) := by simp [vAt, hg]
        rw [e, cI, List.map_set]
        exact hs1
      · have hx := hd' j hj
        rw [if_pos rfl] at hx
        have hlen : xk.length = ns j := by have := hkr.1; simpa using this
        by_cases hti : t = i
        · subst hti
          rw [List.getElem?_set_self (by omega)]
        · rw [List.getElem?_set_ne (by omega)]
          exact hk2 t (by omega)
    · obtain ⟨xs, h1, h2⟩ := h.row j hj
      refine ⟨xs, h1.kept hs2 ?_, fun t ht => h2 t ?_⟩
      · right
        intro e
        have := h.cl j hj g e
        omega
      · have hx := hd' j hj
        rw [if_neg hjk] at hx
        omega
end
abbrev uAt (ub uc ns : Nat → Nat) (j : Nat) : Value := .slice (some ⟨ub j, 0, none⟩) (ns j + 64) (uc j)
/-- the second part: k lists have grown; they lie in gsv -/
structure Pg (W0 : World) (base lb m : Nat) (ax : Nat → Option Addr) (ns cs : Nat → Nat) (cls : Nat → Nat) (ub uc : Nat → Nat) (k : Nat) (gsv : Value) (wr : World) : Prop where
  ph : Ph W0 base lb m ax ns cs cls ns wr
  big : ∀ j, j < k → wr.ownsRow base 21 1 (uAt ub uc ns j) (ns j + 64) (cI (mkL j (ns j + 64))) ∧ cls (ub j) = j
  gs : wr.ownsRow base 22 1 gsv k ((List.range k).map (uAt ub uc ns))
  gc : ∀ b, gsv.ownBlock = some b → cls b = 101
/-- the k-th is growing -/
structure Gk (base : Nat) (ns : Nat → Nat) (cls : Nat → Nat) (k : Nat) (gv : Value) (i : Nat) (wr : World) : Prop where
  row : wr.ownsRow base 21 1 gv (ns k + i) (cI (mkL k (ns k + i)))
  cl : ∀ b, gv.ownBlock = some b → cls b = k
section
variable {W0 : World} {base lb m : Nat} {ax : Nat → Option Addr} {ns cs : Nat → Nat} {cls d ub uc : Nat → Nat} {k : Nat} {gsv gv : Value} {wr : World}
theorem Ph.alloc (h : Ph W0 base lb m ax ns cs cls d wr) (o : Obj) : Ph W0 base lb m ax ns cs cls d (wr.alloc o) :=
  ⟨h.below.alloc (Nat.le_trans h.size h.below.size) o, h.size, h.lbl, fun j hj => by rw [World.cell?_alloc_lt _ _ _ (cell_blk (h.lst j hj))]; exact h.lst j hj, h.lbc,
    fun j hj => by obtain ⟨xs, h1, h2⟩ := h.row j hj; exact ⟨xs, h1.alloc o, h2⟩, h.cl⟩
theorem Pg.alloc (h : Pg W0 base lb m ax ns cs cls ub uc k gsv wr) (o : Obj) : Pg W0 base lb m ax ns cs cls ub uc k gsv (wr.alloc o) :=
  ⟨h.ph.alloc o, fun j hj => ⟨(h.big j hj).1.alloc o, (h.big j hj).2⟩, h.gs.alloc o, h.gc⟩
theorem Gk.alloc {i : Nat} (h : Gk base ns cls k gv i wr) (o : Obj) : Gk base ns cls k gv i (wr.alloc o) := ⟨h.row.alloc o, h.cl⟩
theorem Pg.start (h : Ph W0 base lb m ax ns cs cls ns wr) : Pg W0 base lb m ax ns cs cls ub uc 0 (.slice none 0 0) wr :=
  ⟨h, fun j hj => by omega, World.ownsRow_nil _ _ _ _, fun b hb => by simp [Value.ownBlock] at hb⟩
theorem Gk.start (h : Ph W0 base lb m ax ns cs cls ns wr) (hk : k < m) : Gk base ns cls k (vAt ax ns cs k) 0 wr := by
  obtain ⟨xs, h1, h2⟩ := h.row k hk
  refine ⟨?_, h.cl k hk⟩
  have hl : xs.length = ns k := by have := h1.1; simpa using this
  have e : xs = mkL k (ns k) := by
    apply List.ext_getElem?
    intro t
    rcases Nat.lt_or_ge t (ns k) with ht | ht
    · rw [h2 t ht, mkL_get ht]
    · rw [List.getElem?_eq_none (by omega), List.getElem?_eq_none (by rw [mkL_len]; exact ht)]
  rw [Nat.add_zero, ← e]; exact h1
/-- the lists that are not of the class that is turned stay -/
theorem Ph.kept {w' : World} {row : Option Nat} {cls' : Nat → Nat} (h : Ph W0 base lb m ax ns cs cls ns wr) (hg : wr.grownBy w' row) (hrb : ∀ b, row = some b → base ≤ b) (hlb : row ≠ some lb)
    (hc : ∀ b, b < wr.heap.size → cls' b = cls b)
    (hrow : ∀ j, j < m → ∀ xs, wr.ownsRow base 21 1 (vAt ax ns cs j) (ns j) xs → w'.ownsRow base 21 1 (vAt ax ns cs j) (ns j) xs) : Ph W0 base lb m ax ns cs cls' ns w' :=
  ⟨h.below.grown hg (Nat.le_trans h.size h.below.size) (fun k e => hrb k e), h.size, h.lbl, fun j hj => hg.cell (h.lst j hj) (fun e => hlb e.symm),
    by rw [hc _ (Nat.lt_of_lt_of_le h.lbl h.below.size)]; exact h.lbc,
    fun j hj => by obtain ⟨xs, h1, h2⟩ := h.row j hj; exact ⟨xs, hrow j hj _ h1, h2⟩,
    fun j hj b hb => by obtain ⟨xs, h1, _⟩ := h.row j hj; rw [hc b (h1.lt b hb).2]; exact h.cl j hj b hb⟩
theorem Pg.grow {w' : World} {g cap i : Nat} (hp : Pg W0 base lb m ax ns cs cls ub uc k gsv wr) (hq : Gk base ns cls k gv i wr) (hk : k < m) (hm : m ≤ 16)
    (hown : w'.ownsRow base 21 1 (.slice (some ⟨g, 0, none⟩) (ns k + i + 1) cap) (ns k + i + 1) (cI (mkL k (ns k + i)) ++ [.int .i32 (mkI k ((ns k + i : Nat) : Int))]))
    (hg : wr.grownBy w' gv.ownBlock) (hl : gv.ownBlock = some g ∨ g = wr.heap.size)
    (hkeep : ∀ b0 v0 n0 xs0, wr.ownsRow b0 21 1 v0 n0 xs0 → n0 ≤ ns k + i → w'.ownsRow b0 21 1 v0 n0 xs0) :
    ∃ cls', Pg W0 base lb m ax ns cs cls' ub uc k gsv w' ∧ Gk base ns cls' k (.slice (some ⟨g, 0, none⟩) (ns k + i + 1) cap) (i + 1) w' := by
  obtain ⟨c', hc, hcg⟩ : ∃ c' : Nat → Nat, (∀ b, b < wr.heap.size → c' b = cls b) ∧ c' g = k := by
    refine ⟨fun b => if b = g then k else cls b, fun b hb => ?_, by simp⟩
    by_cases e : b = g
    · subst e
      rcases hl with h | h
      · simp only [if_pos]
        exact (hq.cl b h).symm
      · omega
    · simp only [if_neg e]
  have hne : ∀ (v : Value) (c : Nat), c ≠ k → (∀ b, v.ownBlock = some b → cls b = c) → v.ownBlock = none ∨ v.ownBlock ≠ gv.ownBlock := fun v c hck hv => by
    cases h : v.ownBlock with
    | none => exact .inl rfl
    | some b =>
      right
      intro e
      have := hv b h
      have := hq.cl b e.symm
      omega
  refine ⟨c', ⟨?_, fun j hj => ?_, hp.gs.kept hg (hne _ 101 (by omega) hp.gc), fun b hb => ?_⟩, ⟨?_, fun b hb => ?_⟩⟩
  · refine hp.ph.kept hg (fun b hb => (hq.row.lt b hb).1) (fun e => ?_) hc (fun j hj xs h1 => ?_)
    · have := hq.cl lb e; have := hp.ph.lbc; omega
    · by_cases hjk : j = k
      · subst hjk; exact hkeep _ _ _ _ h1 (by omega)
      · exact h1.kept hg (hne _ j hjk (hp.ph.cl j hj))
  · obtain ⟨h1, h2⟩ := hp.big j hj
    refine ⟨h1.kept hg (hne _ j (by omega) (fun b hb => ?_)), ?_⟩
    · have : ub j = b := by simpa [uAt, Value.ownBlock] using hb
      rw [← this]; exact h2
    · rw [hc _ (h1.lt (ub j) (by simp [uAt, Value.ownBlock])).2]; exact h2
  · rw [hc _ (hp.gs.lt b hb).2]; exact hp.gc b hb
  · rw [← Nat.add_assoc, mkL_succ, cI, List.map_append]; exact hown
  · have : g = b := by simpa [Value.ownBlock] using hb
    subst this
    exact hcg
theorem Pg.push {w' : World} {g cap gb gcap : Nat} (hp : Pg W0 base lb m ax ns cs cls ub uc k gsv wr) (hq : Gk base ns cls k (.slice (some ⟨g, 0, none⟩) (ns k + 64) cap) 64 wr) (hk : k < m) (hm : m ≤ 16)
    (hown : w'.ownsRow base 22 1 (.slice (some ⟨gb, 0, none⟩) (k + 1) gcap) (k + 1) ((List.range k).map (uAt ub uc ns) ++ [.slice (some ⟨g, 0, none⟩) (ns k + 64) cap]))
    (hg : wr.grownBy w' gsv.ownBlock) (hl : gsv.ownBlock = some gb ∨ gb = wr.heap.size) :
    ∃ cls' ub' uc', Pg W0 base lb m ax ns cs cls' ub' uc' (k + 1) (.slice (some ⟨gb, 0, none⟩) (k + 1) gcap) w' := by
  obtain ⟨c', hc, hcg⟩ : ∃ c' : Nat → Nat, (∀ b, b < wr.heap.size → c' b = cls b) ∧ c' gb = 101 := by
    refine ⟨fun b => if b = gb then 101 else cls b, fun b hb => ?_, by simp⟩
    by_cases e : b = gb
    · subst e
      rcases hl with h | h
      · simp only [if_pos]
        exact (hp.gc b h).symm
      · omega
    · simp only [if_neg e]
  have hne : ∀ (v : Value) (c : Nat), c ≠ 101 → (∀ b, v.ownBlock = some b → cls b = c) → v.ownBlock = none ∨ v.ownBlock ≠ gsv.ownBlock := fun v c hck hv => by
    cases h : v.ownBlock with
    | none => exact .inl rfl
    | some b =>
      right
      intro e
      have := hv b h
      have := hp.gc b e.symm
      omega
  refine ⟨c', fun j => if j = k then g else ub j, fun j => if j = k then cap else uc j, ⟨?_, fun j hj => ?_, ?_, fun b hb => ?_⟩⟩
  · refine hp.ph.kept hg (fun b hb => (hp.gs.lt b hb).1) (fun e => ?_) hc (fun j hj xs h1 => h1.kept hg (hne _ j (by omega) (hp.ph.cl j hj)))
    have := hp.gc lb e; have := hp.ph.lbc; omega
  · by_cases hjk : j = k
    · subst hjk
      simp only [uAt, ite_true, if_true]
      refine ⟨hq.row.kept hg (hne _ j (by omega) hq.cl), ?_⟩
      rw [hc _ (hq.row.lt g (by simp [Value.ownBlock])).2]
      exact hq.cl g (by simp [Value.ownBlock])
    · obtain ⟨h1, h2⟩ := hp.big j (by omega)
      simp only [uAt, if_neg hjk]
      refine ⟨h1.kept hg (hne _ j (by omega) (fun b hb => ?_)), ?_⟩
      · have : ub j = b := by simpa [uAt, Value.ownBlock] using hb
        rw [← this]; exact h2
      · rw [hc _ (h1.lt (ub j) (by simp [uAt, Value.ownBlock])).2]; exact h2
  · have e : (List.range (k + 1)).map (uAt (fun j => if j = k then g else ub j) (fun j => if j = k then cap else uc j) ns) = (List.range k).map (uAt ub uc ns) ++ [.slice (some ⟨g, 0, none⟩) (ns k + 64) cap] := by
      rw [List.range_succ, List.map_append]
      congr 1
      · apply List.map_congr_left
        intro j hj
        have : j ≠ k := by have := List.mem_range.1 hj; omega
        simp [uAt, this]
      · simp [uAt]
    rw [e]; exact hown
  · have : gb = b := by simpa [Value.ownBlock] using hb
    subst this
    exact hcg
end
theorem Tryd.infoS32 : (Tryd.prog.info? 22).map (fun i => (i.zero, i.size, i.bytes)) = some (some (.slice none 0 0), 1, 24) := by kernel_rfl
set_option maxHeartbeats 4000000 in
set_option maxRecDepth 1000000 in
theorem apart_any (W0 : World) (base lb m : Nat) (ax : Nat → Option Addr) (ns cs : Nat → Nat) (cls : Nat → Nat) (hm0 : 0 < m) (hm : m ≤ 16) (hn : ∀ j, j < m → ns j ≤ 1048576)
    (hstart : Ph W0 base lb m ax ns cs cls (fun _ => 0) W0) :
    Calls Tryd.prog 27 #[.slice (some ⟨lb, 0, none⟩) m m] W0 fun e w' => e = .returned (.bool true) ∧ Below base W0 w' := by
  have hm0I : (0 : Int) < m := by omega
  go_enter Tryd.func27, Tryd.ntmps27
  go_wp2
  go_loopw [3] (fun kv wr => ∃ k : Nat, kv = .int .i64 k ∧ k ≤ m ∧ Ph W0 base lb m ax ns cs cls (fun j => if j < k then ns j else 0) wr) (fun kv _ => m - (intOf kv).toNat)
  case atStart => exact ⟨0, rfl, Nat.zero_le _, hstart.congr (fun j hj => by simp)⟩
  case round =>
    obtain ⟨k, rfl, hk, hph⟩ := hrel
    by_cases hlt : k < m
    · have hltI : (k : Int) < m := by omega
      go_wp2
      go_loopw [4] (fun iv wr => ∃ i : Nat, iv = .int .i64 i ∧ i ≤ ns k ∧ Ph W0 base lb m ax ns cs cls (fun j => if j < k then ns j else if j = k then i else 0) wr) (fun iv _ => ns k - (intOf iv).toNat)
      case atStart => exact ⟨0, rfl, Nat.zero_le _, hph.congr (fun j hj => by simp)⟩
      case round =>
        obtain ⟨i, rfl, hi, hph2⟩ := hrel
        have hld := hph2.lst k hlt
        have hnk := hn k hlt
        by_cases hil : i < ns k
        · have hilI : (i : Int) < ns k := by omega
          obtain ⟨g, hg, hgb, hgl, _⟩ := hph2.form hlt (by omega)
          have hst : ∀ w : World, w = wr.drew → Ph W0 base lb m ax ns cs cls (fun j => if j < k then ns j else if j = k then i + 1 else 0) (w.setCell ⟨g, i, none⟩ (.int .i32 (mkI k (i : Nat)))) := fun w hw => by
            subst hw
            exact hph2.drew.store hm hlt hil (by simp) hg (fun j hj => by
              by_cases h1 : j = k
              · subst h1; simp
              · simp [h1])
          rw [vAt, hg] at hld
          have hk0 : (0 : Int) ≤ k := by omega
          have cM : ∀ W : World, Calls Tryd.prog 77 #[.int .i64 k, .int .i64 i] W fun e w' => e = .returned (.int .i32 (mkI (k : Nat) (i : Nat))) ∧ w' = W := fun W =>
            (mark_any k i hk0 (by omega) (by omega) (by omega) W).mono fun e w' ⟨h1, h2⟩ => ⟨h1, h2.symm⟩
          go_wp2_with fail
          refine wp_region_still_tail 9 (by kernel_rfl) (by kernel_rfl) ?_
          simp only [List.take_succ_cons, List.take_zero, List.drop_succ_cons, List.drop_zero]
          repeat (first | still_step | still_call (cM _))
          try refine wpStill_nil ?_
          obtain ⟨⟨old, hold⟩, hfz⟩ := hph2.drew.cellAt hlt hg hil
          have hst1 := hst _ rfl
          change wpList _ _ _ _ _ wr.drew
          generalize wr.drew = w2 at hold hfz hst1 ⊢
          clear hst hph2 hld
          go_wp2
          go_roundw
          case rel => exact ⟨i + 1, by go_num, by omega, hst1⟩
          case measure => simp [intOf]; omega
        · have hge : (ns k : Int) ≤ i := by omega
          go_wp2
          go_roundw
          case rel => exact ⟨k + 1, by go_num, by omega, hph2.congr (fun j hj => by
            by_cases h1 : j = k
            · subst h1; simp; omega
            · by_cases h2 : j < k
              · have h3 : j < k + 1 := by omega
                simp [h2, h3]
              · have h3 : ¬ j < k + 1 := by omega
                simp [h1, h2, h3])⟩
          case measure => simp [intOf]; omega
    · have hge : (m : Int) ≤ k := by omega
      have hph3 : Ph W0 base lb m ax ns cs cls ns wr := hph.congr (fun j hj => by
        have h3 : j < k := by omega
        simp [h3])
      clear hph hstart
      obtain ⟨i0, hi0, hz0, hz1, hz2⟩ := info_parts Tryd.info32
      obtain ⟨i1, hi1, hy0, hy1, hy2⟩ := info_parts Tryd.infoS32
      go_wp2
      go_loopw [5, 6] (fun gv kv wr => ∃ (k : Nat) (cls ub uc : Nat → Nat), kv = .int .i64 k ∧ k ≤ m ∧ Pg W0 base lb m ax ns cs cls ub uc k gv wr) (fun _ kv _ => m - (intOf kv).toNat)
      case atStart => exact ⟨0, cls, ns, ns, rfl, Nat.zero_le _, Pg.start hph3⟩
      case round =>
        obtain ⟨k, cls, ub, uc, rfl, hk, hpg⟩ := hrel
        by_cases hlt : k < m
        · have hltI : (k : Int) < m := by omega
          have hld := hpg.ph.lst k hlt
          have hgk := Gk.start hpg.ph hlt
          go_wp2
          go_loopw [7, 8] (fun gv iv wr => ∃ (i : Nat) (cls : Nat → Nat), iv = .int .i64 i ∧ i ≤ 64 ∧ Pg W0 base lb m ax ns cs cls ub uc k u5 wr ∧ Gk base ns cls k gv i wr) (fun _ iv _ => 64 - (intOf iv).toNat)
          case atStart => exact ⟨0, cls, rfl, by omega, hpg, hgk⟩
          case round =>
            obtain ⟨i, cls, rfl, hi, hpg, hgk⟩ := hrel
            have hld := hpg.ph.lst k hlt
            by_cases hil : i < 64
            · have hilI : (i : Int) < 64 := by omega
              have hk0 : (0 : Int) ≤ k := by omega
              have hnk := hn k hlt
              have hbs : base ≤ wr.heap.size := Nat.le_trans hpg.ph.size hpg.ph.below.size
              have cM : ∀ W : World, Calls Tryd.prog 77 #[.int .i64 k, .int .i64 (ns k + i)] W fun e w' => e = .returned (.int .i32 (mkI (k : Nat) ((ns k + i : Nat) : Int))) ∧ W = w' := fun W => by
                have := mark_any k (ns k + i) hk0 (by omega) (by omega) (by omega) W
                rw [← Int.natCast_add] at this ⊢
                exact this
              obtain ⟨mv, hmv⟩ : ∃ mv, mkI (k : Nat) ((ns k + i : Nat) : Int) = mv := ⟨_, rfl⟩
              rw [hmv] at cM
              have hpg1 := hpg.alloc (.cells #[.int .i32 mv] 21)
              have hgk1 := hgk.alloc (.cells #[.int .i32 mv] 21)
              have Hmv := Lib.hid hmv
              clear hmv
              go_wp2_with fail
              refine (cM _).mono ?_
              rintro e w' ⟨rfl, rfl⟩
              go_wp2_with ((at_builtin; refine Ap.wpList_append_keeps _ rfl (.tmp 50) (.tmp 60) 22 rfl base 21 i0 (.int .i32 0) 1 4 Tryd.underlying22 hi0 hz0 hz1 hz2 rfl (by decide) u7 (ns k + i) (cI (mkL k (ns k + i))) (by simp [Act.eval]) hgk1.row ⟨wr.heap.size, 0, none⟩ 1 1 [.int .i32 mv] (by simp [Act.eval]) rfl (World.news_of_block (heap_alloc_new wr (.cells #[.int .i32 mv] 21))) (by intro u hu; simp at hu; subst hu; rfl) (by decide) (by unfold maxLen; omega) (by omega) (by simp; omega) _ rfl ?_; intro g cap w1 hown hgr hlies hlt1 hkeep))
              obtain ⟨cls', hpg2, hgk2⟩ := hpg1.grow hgk1 hlt hm (by rw [Hmv.out]; exact hown) hgr hlies hkeep
              clear hpg hgk hpg1 hgk1 hown hgr hlies hlt1 hkeep hld cM
              go_wp2
              go_roundw
              case rel => exact ⟨i + 1, cls', by go_num, by omega, hpg2, hgk2⟩
              case measure => simp [intOf]; omega
            · have hge : (64 : Int) ≤ i := by omega
              obtain rfl : i = 64 := by omega
              obtain ⟨g, cap, rfl, hgb, hgl⟩ := hgk.row.form (by omega)
              have hpg1 := hpg.alloc (.cells #[.slice (some ⟨g, 0, none⟩) (ns k + 64) cap] 22)
              have hgk1 := hgk.alloc (.cells #[.slice (some ⟨g, 0, none⟩) (ns k + 64) cap] 22)
              have hbs : base ≤ wr.heap.size := Nat.le_trans hpg.ph.size hpg.ph.below.size
              go_wp2_with ((at_builtin; refine wpList_append_lies _ rfl (.tmp 62) (.tmp 64) 26 rfl base 22 i1 (.slice none 0 0) 1 24 Tryd.underlying26 hi1 hy0 hy1 hy2 rfl (by decide) u5 k ((List.range k).map (uAt ub uc ns)) (by simp [Act.eval]) hpg1.gs ⟨wr.heap.size, 0, none⟩ 1 1 [.slice (some ⟨g, 0, none⟩) (ns k + 64) cap] (by simp [Act.eval]) rfl (World.news_of_block (heap_alloc_new wr (.cells #[.slice (some ⟨g, 0, none⟩) (ns k + 64) cap] 22))) (by intro u hu; simp at hu; subst hu; rfl) (by decide) (by unfold maxLen; omega) (by omega) (by simp; omega) _ rfl ?_; intro gb gcap w1 hown hgr hlies hlt1))
              obtain ⟨cls', ub', uc', hpg2⟩ := hpg1.push hgk1 hlt hm hown hgr hlies
              clear hpg hgk hpg1 hgk1 hown hgr hlies hlt1 hld
              go_wp2
              go_roundw
              case rel => exact ⟨k + 1, cls', ub', uc', by go_num, by omega, hpg2⟩
              case measure => simp [intOf]; omega
        · have hge : (m : Int) ≤ k := by omega
          obtain rfl : k = m := by omega
          obtain ⟨gb, gcap, rfl, hgbb, hgbl⟩ := hpg.gs.form hm0
          have hG : ∀ j, j < k → wr.cell? ⟨gb, j, none⟩ = some (uAt ub uc ns j) := fun j hj => by
            rw [hpg.gs.cellAt j (by omega)]; simp [hj]
          have hU : ∀ j, j < k → ∀ i, i < ns j + 64 → wr.cell? ⟨ub j, i, none⟩ = some (.int .i32 (mkI (j : Nat) (i : Nat))) := fun j hj i hi => by
            rw [(hpg.big j hj).1.cellAt i (by omega)]; simp [cI, mkL_get hi]
          have hLs := hpg.ph.lst
          have hVs : ∀ j, j < k → ∀ g i, ax j = some ⟨g, 0, none⟩ → i < ns j → wr.cell? ⟨g, i, none⟩ = some (.int .i32 (mkI (j : Nat) (i : Nat))) := fun j hj g i hg hi => by
            have h1 := (Gk.start hpg.ph hj).row
            have e : vAt ax ns cs j = .slice (some ⟨g, 0, none⟩) (ns j) (cs j) := by simp [vAt, hg]
            rw [Nat.add_zero, e] at h1
            rw [h1.cellAt i (by omega)]; simp [cI, mkL_get hi]
          have hform := fun j (hj : j < k) (h0 : 0 < ns j) => hpg.ph.form hj h0
          have hbel := hpg.ph.below
          have HG := Lib.hid hG
          have HU := Lib.hid hU
          have HLs := Lib.hid hLs
          have HVs := Lib.hid hVs
          have Hform := Lib.hid hform
          clear hG hU hLs hVs hform hpg hph3
          go_wp2
          go_loopw [9] (fun kv w2 => ∃ j : Nat, kv = .int .i64 j ∧ j ≤ k ∧ w2 = wr) (fun kv _ => k - (intOf kv).toNat)
          case atStart => exact ⟨0, rfl, Nat.zero_le _, rfl⟩
          case round =>
            obtain ⟨j, rfl, hj, rfl⟩ := hrel
            by_cases hjl : j < k
            · have hjI : (j : Int) < k := by omega
              have hGj := HG.out j hjl
              have hLj := HLs.out j hjl
              have hnj := hn j hjl
              go_wp2
              go_loopw [10] (fun iv w2 => ∃ i : Nat, iv = .int .i64 i ∧ i ≤ ns j + 64 ∧ w2 = wr) (fun iv _ => ns j + 64 - (intOf iv).toNat)
              case atStart => exact ⟨0, rfl, Nat.zero_le _, rfl⟩
              case round =>
                obtain ⟨i, rfl, hi, rfl⟩ := hrel
                by_cases hil : i < ns j + 64
                · have hiI : (i : Int) < (ns j : Int) + 64 := by omega
                  have hUi := HU.out j hjl i hil
                  have hj0 : (0 : Int) ≤ j := by omega
                  have cM : ∀ W : World, Calls Tryd.prog 77 #[.int .i64 j, .int .i64 i] W fun e w' => e = .returned (.int .i32 (mkI (j : Nat) (i : Nat))) ∧ W = w' := fun W => mark_any j i hj0 (by omega) (by omega) (by omega) W
                  obtain ⟨mv, hmv⟩ : ∃ mv, mkI (j : Nat) (i : Nat) = mv := ⟨_, rfl⟩
                  rw [hmv] at cM hUi
                  by_cases hin : i < ns j
                  · have hinI : (i : Int) < ns j := by omega
                    obtain ⟨g, hg, _⟩ := Hform.out j hjl (by omega)
                    have hVi := HVs.out j hjl g i hg hin
                    rw [hmv] at hVi
                    rw [vAt, hg] at hLj
                    clear hg hmv
                    go_wp2_with fail
                    refine (cM _).mono ?_
                    rintro e w' ⟨rfl, rfl⟩
                    go_wp2
                    go_roundw
                    case rel => exact ⟨i + 1, by go_num, by omega, trivial⟩
                    case measure => simp [intOf]; omega
                  · have hinI : decide ((i : Int) < ns j) = false := by simp; omega
                    have hgeI : (ns j : Int) ≤ i := by omega
                    clear hmv
                    go_wp2_with fail
                    refine (cM _).mono ?_
                    rintro e w' ⟨rfl, rfl⟩
                    go_wp2
                    go_roundw
                    case rel => exact ⟨i + 1, by go_num, by omega, trivial⟩
                    case measure => simp [intOf]; omega
                · have hge2 : (ns j : Int) + 64 ≤ i := by omega
                  go_wp2
                  go_roundw
                  case rel => exact ⟨j + 1, by go_num, by omega, trivial⟩
                  case measure => simp [intOf]; omega
            · have hge2 : (k : Int) ≤ j := by omega
              go_wp2
              go_ret
              exact ⟨rfl, hbel⟩
end Go.Proofs.YtbkimhbpcmbflaaDoor.C
