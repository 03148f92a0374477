-- Printed by a program of this session's own.
import Derived.Test.YtogpednapceljaaPAx0
import Derived.Test.YtogpednapceljaaPAx3
namespace Go.Proofs.Ytogpednapceljaa.PA
open Go.RowKit Go.Proofs.YtogpednapceljaaW.PrintWords Go.Proofs.YtogpednapceljaaW.PrintLast Go.Proofs.YtogpednapceljaaW.PrintMore Go.Proofs.YtogpednapceljaaX
attribute [local go_sem] max2_int min2_int max_two min_two max_three min_three max_four min_four   -- for this text's walks alone
set_option linter.unusedVariables false
set_option linter.unusedSimpArgs false

/-- A state of type 23 at block g of W; what its slices lead to came in by w0. -/
def IsS23 (w0 W : World) (g : Nat) (f0 : Int) (f1 : Int) (f2 : Int) (f3 : Int) : Prop := W.heap[g]? = some (.cells #[.int .i64 f0, .int .i64 f1, .int .i64 f2, .int .i64 f3] 23 (0, 0)) ∧ w0.heap.size ≤ g
theorem IsS23.grown {w0 W : World} {g : Nat} {f0 : Int} {f1 : Int} {f2 : Int} {f3 : Int} {W1 : World} {row : Option Nat} (h : IsS23 w0 W g f0 f1 f2 f3) (hw : W.grownBy W1 row) (hne : some g ≠ row) : IsS23 w0 W1 g f0 f1 f2 f3 := by
  obtain ⟨hb, hg⟩ := h
  exact ⟨blk_grown hb hw hne, hg⟩
theorem IsS23.own_neN {w0 W : World} {g : Nat} {f0 : Int} {f1 : Int} {f2 : Int} {f3 : Int} {α : Type} {d : Kd α} {e : Nat} {base : Nat} {ok : Nat → Prop} {v : Value} {xs : List α} (h : IsS23 w0 W g f0 f1 f2 f3) (ho : Kd.N d e W base ok v xs) (ht : e ≠ 23) : some g ≠ v.ownBlock := by
  obtain ⟨hb, hg⟩ := h
  exact Kd.N_ne ho hb ht
theorem IsS23.fresh {w0 W : World} {g : Nat} {f0 : Int} {f1 : Int} {f2 : Int} {f3 : Int} (h : IsS23 w0 W g f0 f1 f2 f3) : ∀ k, W.heap.size ≤ k → k ≠ g := by
  obtain ⟨hb, hg⟩ := h
  exact Kd.freshB hb
theorem IsS23.kept {w0 W : World} {g : Nat} {f0 : Int} {f1 : Int} {f2 : Int} {f3 : Int} {W1 : World} {S : Nat → Prop} (h : IsS23 w0 W g f0 f1 f2 f3) (hk : Kept W W1 S) (hne : ¬ S g) : IsS23 w0 W1 g f0 f1 f2 f3 := by
  obtain ⟨hb, hg⟩ := h
  exact ⟨blk_kept hb hk hne, hg⟩
theorem IsS23.below {w0 W : World} {g : Nat} {f0 : Int} {f1 : Int} {f2 : Int} {f3 : Int} {W1 : World} (h : IsS23 w0 W g f0 f1 f2 f3) (hw : Below W.heap.size W W1) : IsS23 w0 W1 g f0 f1 f2 f3 := h.grown (grown_of_below hw none) (by simp)
theorem IsS23.alloc {w0 W : World} {g : Nat} {f0 : Int} {f1 : Int} {f2 : Int} {f3 : Int} (h : IsS23 w0 W g f0 f1 f2 f3) (o : Obj) : IsS23 w0 (W.alloc o) g f0 f1 f2 f3 := h.below (below_alloc (Below.refl _ _) o)
theorem IsS23.drewN {w0 W : World} {g : Nat} {f0 : Int} {f1 : Int} {f2 : Int} {f3 : Int} (h : IsS23 w0 W g f0 f1 f2 f3) (m : Nat) : IsS23 w0 (W.drewN m) g f0 f1 f2 f3 := h
theorem IsS23.drew {w0 W : World} {g : Nat} {f0 : Int} {f1 : Int} {f2 : Int} {f3 : Int} (h : IsS23 w0 W g f0 f1 f2 f3) : IsS23 w0 W.drew g f0 f1 f2 f3 := h
theorem IsS23.at_ {w0 W : World} {g : Nat} {f0 : Int} {f1 : Int} {f2 : Int} {f3 : Int} {w' : World} {m : Nat} (hq : W.drewN m = w') (h : IsS23 w0 W g f0 f1 f2 f3) : IsS23 w0 w' g f0 f1 f2 f3 := by subst hq; exact IsS23.drewN h m
theorem IsS23.apart {w0 W : World} {g : Nat} {f0 : Int} {f1 : Int} {f2 : Int} {f3 : Int} {α : Type} {d : Kd α} {e : Nat} {base : Nat} {ok : Nat → Prop} {v : Value} {xs : List α} (h : IsS23 w0 W g f0 f1 f2 f3) (ho : d.R e W base ok v xs) (ht : ∀ q, q ∈ e :: d.E → q ≠ 23) : d.R e W base (fun k => ok k ∧ k ≠ g) v xs := by
  obtain ⟨hb, hg⟩ := h
  exact Kd.R_types ho hb ht
theorem IsS23.own_ne {w0 W : World} {g : Nat} {f0 : Int} {f1 : Int} {f2 : Int} {f3 : Int} {α : Type} {d : Kd α} {e : Nat} {base : Nat} {ok : Nat → Prop} {v : Value} {xs : List α} (h : IsS23 w0 W g f0 f1 f2 f3) (ho : d.R e W base ok v xs) (ht : e ≠ 23) : some g ≠ v.ownBlock := by
  obtain ⟨hb, hg⟩ := h
  exact Kd.R_ne ho hb ht
theorem IsS23.apartQ {w0 W : World} {g : Nat} {f0 : Int} {f1 : Int} {f2 : Int} {f3 : Int} {α : Type} {d : Kd α} {e : Nat} {base : Nat} {ok : Nat → Prop} {v : Value} {xs : List α} (h : IsS23 w0 W g f0 f1 f2 f3) (ho : d.Q e W base ok v xs) (ht : ∀ q, q ∈ e :: d.E → q ≠ 23) : d.Q e W base (fun k => ok k ∧ k ≠ g) v xs := by
  obtain ⟨hb, hg⟩ := h
  exact Kd.Q_types ho hb ht
theorem IsS23.own_neQ {w0 W : World} {g : Nat} {f0 : Int} {f1 : Int} {f2 : Int} {f3 : Int} {α : Type} {d : Kd α} {e : Nat} {base : Nat} {ok : Nat → Prop} {v : Value} {xs : List α} (h : IsS23 w0 W g f0 f1 f2 f3) (ho : d.Q e W base ok v xs) (ht : e ≠ 23) : some g ≠ v.ownBlock := by
  obtain ⟨hb, hg⟩ := h
  exact Kd.Q_ne ho hb ht
theorem IsS23.apartS {w0 W : World} {g : Nat} {f0 : Int} {f1 : Int} {f2 : Int} {f3 : Int} {α : Type} {d : Kd α} {e : Nat} {base : Nat} {ok : Nat → Prop} {v : Value} {xs : List α} (h : IsS23 w0 W g f0 f1 f2 f3) (ho : d.S e W base ok v xs) (ht : ∀ q, q ∈ e :: d.E → q ≠ 23) : d.S e W base (fun k => ok k ∧ k ≠ g) v xs := by
  obtain ⟨hb, hg⟩ := h
  exact Kd.S_types ho hb ht
theorem IsS23.own_neS {w0 W : World} {g : Nat} {f0 : Int} {f1 : Int} {f2 : Int} {f3 : Int} {α : Type} {d : Kd α} {e : Nat} {base : Nat} {ok : Nat → Prop} {v : Value} {xs : List α} (h : IsS23 w0 W g f0 f1 f2 f3) (ho : d.S e W base ok v xs) (ht : e ≠ 23) : some g ≠ v.ownBlock := by
  obtain ⟨hb, hg⟩ := h
  exact Kd.S_ne ho hb ht
theorem IsS23.lt {w0 W : World} {g : Nat} {f0 : Int} {f1 : Int} {f2 : Int} {f3 : Int} (h : IsS23 w0 W g f0 f1 f2 f3) : g < W.heap.size := by
  obtain ⟨hb, hg⟩ := h
  exact blk_lt hb
theorem IsS23.ge {w0 W : World} {g : Nat} {f0 : Int} {f1 : Int} {f2 : Int} {f3 : Int} (h : IsS23 w0 W g f0 f1 f2 f3) : w0.heap.size ≤ g := by
  obtain ⟨hb, hg⟩ := h
  exact hg
theorem IsS23.ne_blk {w0 W : World} {g : Nat} {f0 : Int} {f1 : Int} {f2 : Int} {f3 : Int} {a : Nat} {cs : Array Value} {t : TypeId} {fr : Nat × Nat} (h : IsS23 w0 W g f0 f1 f2 f3) (hb2 : W.heap[a]? = some (.cells cs t fr)) (ht : t ≠ 23) : g ≠ a := by
  obtain ⟨hb, hg⟩ := h
  rintro rfl
  rw [hb] at hb2
  injection hb2 with hb2
  injection hb2 with _ ht2
  exact ht ht2.symm
theorem IsS23.far {w0 W : World} {g : Nat} {f0 : Int} {f1 : Int} {f2 : Int} {f3 : Int} {p : Addr} (h : IsS23 w0 W g f0 f1 f2 f3) (hne : g ≠ p.block) (u : Value) : IsS23 w0 (W.setCell p u) g f0 f1 f2 f3 := by
  obtain ⟨hb, hg⟩ := h
  exact ⟨blk_far hb hne u, hg⟩
theorem cellS23_0 {W : World} {g : Nat} {f0 : Int} {f1 : Int} {f2 : Int} {f3 : Int} (h : W.heap[g]? = some (.cells #[.int .i64 f0, .int .i64 f1, .int .i64 f2, .int .i64 f3] 23 (0, 0))) : W.cell? ⟨g, 0, none⟩ = some (.int .i64 f0) := (blk_cell h 0).trans rfl
theorem IsS23.set_0 {w0 W : World} {g : Nat} {f0 : Int} {f1 : Int} {f2 : Int} {f3 : Int} (h : IsS23 w0 W g f0 f1 f2 f3) (x : Int) : IsS23 w0 (W.setCell ⟨g, 0, none⟩ (.int .i64 x)) g x f1 f2 f3 := by
  obtain ⟨hb, hg⟩ := h
  exact ⟨by simpa using blk_set hb 0 (.int .i64 x), hg⟩
theorem cellS23_1 {W : World} {g : Nat} {f0 : Int} {f1 : Int} {f2 : Int} {f3 : Int} (h : W.heap[g]? = some (.cells #[.int .i64 f0, .int .i64 f1, .int .i64 f2, .int .i64 f3] 23 (0, 0))) : W.cell? ⟨g, 1, none⟩ = some (.int .i64 f1) := (blk_cell h 1).trans rfl
theorem IsS23.set_1 {w0 W : World} {g : Nat} {f0 : Int} {f1 : Int} {f2 : Int} {f3 : Int} (h : IsS23 w0 W g f0 f1 f2 f3) (x : Int) : IsS23 w0 (W.setCell ⟨g, 1, none⟩ (.int .i64 x)) g f0 x f2 f3 := by
  obtain ⟨hb, hg⟩ := h
  exact ⟨by simpa using blk_set hb 1 (.int .i64 x), hg⟩
theorem cellS23_2 {W : World} {g : Nat} {f0 : Int} {f1 : Int} {f2 : Int} {f3 : Int} (h : W.heap[g]? = some (.cells #[.int .i64 f0, .int .i64 f1, .int .i64 f2, .int .i64 f3] 23 (0, 0))) : W.cell? ⟨g, 2, none⟩ = some (.int .i64 f2) := (blk_cell h 2).trans rfl
theorem IsS23.set_2 {w0 W : World} {g : Nat} {f0 : Int} {f1 : Int} {f2 : Int} {f3 : Int} (h : IsS23 w0 W g f0 f1 f2 f3) (x : Int) : IsS23 w0 (W.setCell ⟨g, 2, none⟩ (.int .i64 x)) g f0 f1 x f3 := by
  obtain ⟨hb, hg⟩ := h
  exact ⟨by simpa using blk_set hb 2 (.int .i64 x), hg⟩
theorem cellS23_3 {W : World} {g : Nat} {f0 : Int} {f1 : Int} {f2 : Int} {f3 : Int} (h : W.heap[g]? = some (.cells #[.int .i64 f0, .int .i64 f1, .int .i64 f2, .int .i64 f3] 23 (0, 0))) : W.cell? ⟨g, 3, none⟩ = some (.int .i64 f3) := (blk_cell h 3).trans rfl
theorem IsS23.set_3 {w0 W : World} {g : Nat} {f0 : Int} {f1 : Int} {f2 : Int} {f3 : Int} (h : IsS23 w0 W g f0 f1 f2 f3) (x : Int) : IsS23 w0 (W.setCell ⟨g, 3, none⟩ (.int .i64 x)) g f0 f1 f2 x := by
  obtain ⟨hb, hg⟩ := h
  exact ⟨by simpa using blk_set hb 3 (.int .i64 x), hg⟩
theorem IsS23.new (w0 W : World) (f0 : Int) (f1 : Int) (f2 : Int) (f3 : Int) (hB : Below w0.heap.size w0 W) : IsS23 w0 (W.alloc (.cells #[.int .i64 f0, .int .i64 f1, .int .i64 f2, .int .i64 f3] 23)) W.heap.size f0 f1 f2 f3 := ⟨by simpa using heap_alloc_new W _, hB.size⟩
/-- An act on a thing: none if it is not possible; else which field it writes, and what. -/
def actW (k l f t : Int) : Option (Nat × Int) :=
  if k = 1 then some (2, wrap64 (wrap64 (4 * l) - f))
  else if k = 2 ∧ 0 < f ∧ t < 2 then some (3, wrap64 (t + 1))
  else if k = 3 ∧ 0 < f then some (3, wrap64 (1 - t))
  else none
/-- What an act leaves of the memory. -/
def ActPost (w : World) (g o : Nat) (z : Option (Nat × Int)) (e : Ending) (w' : World) : Prop := match z with
  | some (j, x) => e = .returned (.bool true) ∧ ∃ n m, w' = ((w.drewN n).setCell ⟨g, o + j, none⟩ (.int .i64 x)).drewN m
  | none => e = .returned (.bool false) ∧ ∃ n, w' = w.drewN n
set_option maxHeartbeats 4000000 in
set_option maxRecDepth 100000 in
theorem act_one (w : World) (g o : Nat) (l f : Int) (c0 : w.cell? ⟨g, o, none⟩ = some (.int .i64 1)) (c1 : w.cell? ⟨g, o + 1, none⟩ = some (.int .i64 l)) (c2 : w.cell? ⟨g, o + 2, none⟩ = some (.int .i64 f)) (z2 : w.frozen? ⟨g, o + 2, none⟩ = false) :
    Calls Try.prog 86 #[.pointer (some ⟨g, o, none⟩)] w (ActPost w g o (some (2, wrap64 (wrap64 (4 * l) - f)))) := by
  go_enter Try.func86, Try.ntmps86
  go_wp2
  go_region
  all_goals
    go_wp2
    go_ret
    exact ⟨rfl, by first | exact ⟨0, 0, rfl⟩ | exact ⟨_, 0, rfl⟩ | exact ⟨1, 0, rfl⟩ | exact ⟨_, _, rfl⟩⟩
set_option maxHeartbeats 4000000 in
set_option maxRecDepth 100000 in
theorem act_two (w : World) (g o : Nat) (f t : Int) (c0 : w.cell? ⟨g, o, none⟩ = some (.int .i64 2)) (c2 : w.cell? ⟨g, o + 2, none⟩ = some (.int .i64 f)) (c3 : w.cell? ⟨g, o + 3, none⟩ = some (.int .i64 t)) (z3 : w.frozen? ⟨g, o + 3, none⟩ = false) (hf : 0 < f) (ht : t < 2) :
    Calls Try.prog 86 #[.pointer (some ⟨g, o, none⟩)] w (ActPost w g o (some (3, wrap64 (t + 1)))) := by
  have d1 : decide (0 < f) = true := decide_eq_true hf
  have d2 : decide (t < 2) = true := decide_eq_true ht
  clear hf ht
  go_enter Try.func86, Try.ntmps86
  go_wp2
  go_ret
  exact ⟨rfl, by first | exact ⟨0, 0, rfl⟩ | exact ⟨_, 0, rfl⟩ | exact ⟨1, 0, rfl⟩ | exact ⟨_, _, rfl⟩⟩
set_option maxHeartbeats 4000000 in
set_option maxRecDepth 100000 in
theorem act_three (w : World) (g o : Nat) (f t : Int) (c0 : w.cell? ⟨g, o, none⟩ = some (.int .i64 3)) (c2 : w.cell? ⟨g, o + 2, none⟩ = some (.int .i64 f)) (c3 : w.cell? ⟨g, o + 3, none⟩ = some (.int .i64 t)) (z3 : w.frozen? ⟨g, o + 3, none⟩ = false) (hf : 0 < f) :
    Calls Try.prog 86 #[.pointer (some ⟨g, o, none⟩)] w (ActPost w g o (some (3, wrap64 (1 - t)))) := by
  have d1 : decide (0 < f) = true := decide_eq_true hf
  clear hf
  go_enter Try.func86, Try.ntmps86
  go_wp2
  go_ret
  exact ⟨rfl, by first | exact ⟨0, 0, rfl⟩ | exact ⟨_, 0, rfl⟩ | exact ⟨1, 0, rfl⟩ | exact ⟨_, _, rfl⟩⟩
set_option maxHeartbeats 4000000 in
set_option maxRecDepth 100000 in
theorem act_no2 (w : World) (g o : Nat) (f t : Int) (c0 : w.cell? ⟨g, o, none⟩ = some (.int .i64 2)) (c2 : w.cell? ⟨g, o + 2, none⟩ = some (.int .i64 f)) (c3 : w.cell? ⟨g, o + 3, none⟩ = some (.int .i64 t)) (hf : ¬ (0 < f ∧ t < 2)) :
    Calls Try.prog 86 #[.pointer (some ⟨g, o, none⟩)] w (ActPost w g o none) := by
  by_cases h1 : 0 < f
  · have d1 : decide (0 < f) = true := decide_eq_true h1
    have d2 : decide (t < 2) = false := decide_eq_false (fun h => hf ⟨h1, h⟩)
    clear hf h1
    go_enter Try.func86, Try.ntmps86
    go_wp2
    go_ret
    exact ⟨rfl, by first | exact ⟨0, rfl⟩ | exact ⟨_, rfl⟩⟩
  · have d1 : decide (0 < f) = false := decide_eq_false h1
    clear hf h1
    go_enter Try.func86, Try.ntmps86
    go_wp2
    go_ret
    exact ⟨rfl, by first | exact ⟨0, rfl⟩ | exact ⟨_, rfl⟩⟩
set_option maxHeartbeats 4000000 in
set_option maxRecDepth 100000 in
theorem act_no3 (w : World) (g o : Nat) (f : Int) (c0 : w.cell? ⟨g, o, none⟩ = some (.int .i64 3)) (c2 : w.cell? ⟨g, o + 2, none⟩ = some (.int .i64 f)) (hf : ¬ 0 < f) :
    Calls Try.prog 86 #[.pointer (some ⟨g, o, none⟩)] w (ActPost w g o none) := by
  have d1 : decide (0 < f) = false := decide_eq_false hf
  clear hf
  go_enter Try.func86, Try.ntmps86
  go_wp2
  go_ret
  exact ⟨rfl, by first | exact ⟨0, rfl⟩ | exact ⟨_, rfl⟩⟩
set_option maxHeartbeats 4000000 in
set_option maxRecDepth 100000 in
theorem act_no (w : World) (g o : Nat) (k : Int) (c0 : w.cell? ⟨g, o, none⟩ = some (.int .i64 k)) (h1 : ¬ k = 1) (h2 : ¬ k = 2) (h3 : ¬ k = 3) :
    Calls Try.prog 86 #[.pointer (some ⟨g, o, none⟩)] w (ActPost w g o none) := by
  have d1 : (k == 1) = false := by simpa using h1
  have d2 : (k == 2) = false := by simpa using h2
  have d3 : (k == 3) = false := by simpa using h3
  clear h1 h2 h3
  go_enter Try.func86, Try.ntmps86
  go_wp2
  go_ret
  exact ⟨rfl, by first | exact ⟨0, rfl⟩ | exact ⟨_, rfl⟩⟩
/-- The act's contract, at any place of memory. -/
theorem act_core (w : World) (g o : Nat) (k l f t : Int) (c0 : w.cell? ⟨g, o, none⟩ = some (.int .i64 k)) (c1 : w.cell? ⟨g, o + 1, none⟩ = some (.int .i64 l)) (c2 : w.cell? ⟨g, o + 2, none⟩ = some (.int .i64 f)) (c3 : w.cell? ⟨g, o + 3, none⟩ = some (.int .i64 t)) (z2 : w.frozen? ⟨g, o + 2, none⟩ = false) (z3 : w.frozen? ⟨g, o + 3, none⟩ = false) :
    Calls Try.prog 86 #[.pointer (some ⟨g, o, none⟩)] w (ActPost w g o (actW k l f t)) := by
  unfold actW
  by_cases h1 : k = 1
  · subst h1
    rw [if_pos rfl]
    exact act_one w g o l f c0 c1 c2 z2
  · rw [if_neg h1]
    by_cases h2 : k = 2
    · subst h2
      by_cases hf : 0 < f ∧ t < 2
      · rw [if_pos ⟨rfl, hf⟩]
        exact act_two w g o f t c0 c2 c3 z3 hf.1 hf.2
      · rw [if_neg (fun h => hf h.2), if_neg (fun h => absurd h.1 (by decide))]
        exact act_no2 w g o f t c0 c2 c3 hf
    · rw [if_neg (fun h => h2 h.1)]
      by_cases h3 : k = 3
      · subst h3
        by_cases hf : 0 < f
        · rw [if_pos ⟨rfl, hf⟩]
          exact act_three w g o f t c0 c2 c3 z3 hf
        · rw [if_neg (fun h => hf h.2)]
          exact act_no3 w g o f c0 c2 hf
      · rw [if_neg (fun h => h3 h.1)]
        exact act_no w g o k c0 h1 h2 h3
theorem actW_at {k l f t : Int} {j : Nat} {x : Int} (h : actW k l f t = some (j, x)) : j = 2 ∨ j = 3 := by
  unfold actW at h
  (repeat' split at h) <;> first | (cases h; done) | (obtain ⟨rfl, _⟩ := Prod.mk.inj (Option.some.inj h); first | exact Or.inl rfl | exact Or.inr rfl)
/-- The thing behind an act. -/
def actF (k l f t : Int) : Bool × Int × Int × Int × Int := match actW k l f t with
  | some (j, x) => if j = 2 then (true, k, l, x, t) else (true, k, l, f, x)
  | none => (false, k, l, f, t)

/-! ### impl_Thing_act: function 86, its contract told by hand -/
def impl_Thing_act.f (s0_0 s0_1 s0_2 s0_3 : Int) : Option (Bool × Int × Int × Int × Int) := some (actF s0_0 s0_1 s0_2 s0_3)
theorem impl_Thing_act.calls (g : Nat) (s0_0 : Int) (s0_1 : Int) (s0_2 : Int) (s0_3 : Int) (r1 : Bool) (r2 : Int) (r3 : Int) (r4 : Int) (r5 : Int) (w0 w : World) (hI : IsS23 w0 w g s0_0 s0_1 s0_2 s0_3) (hB : Below w0.heap.size w0 w) (h : impl_Thing_act.f s0_0 s0_1 s0_2 s0_3 = some (r1, r2, r3, r4, r5)) :
    Calls Try.prog 86 #[.pointer (some ⟨g, 0, none⟩)] w fun e w' => e = .returned (.bool r1) ∧ IsS23 w0 w' g r2 r3 r4 r5 ∧ Below w0.heap.size w0 w' ∧ KeepBut w w' g none := by
  have hb := hI.1
  have c := act_core w g 0 s0_0 s0_1 s0_2 s0_3 ((blk_cell hb 0).trans rfl) ((blk_cell hb 1).trans rfl) ((blk_cell hb 2).trans rfl) ((blk_cell hb 3).trans rfl) (blk_frozen hb 2) (blk_frozen hb 3)
  have h := Option.some.inj h
  unfold actF at h
  cases hz : actW s0_0 s0_1 s0_2 s0_3 with
  | none =>
    rw [hz] at h c
    obtain ⟨rfl, rfl, rfl, rfl, rfl⟩ : false = r1 ∧ s0_0 = r2 ∧ s0_1 = r3 ∧ s0_2 = r4 ∧ s0_3 = r5 := by simpa using h
    refine c.mono fun e w' ⟨he, n, hw⟩ => ?_
    subst hw
    exact ⟨he, IsS23.drewN hI n, pw_below_drewN hB n, keep_drewN (KeepBut.refl _ _ _) n⟩
  | some z =>
    obtain ⟨j, x⟩ := z
    rw [hz] at h c
    rcases actW_at hz with rfl | rfl
    · obtain ⟨rfl, rfl, rfl, rfl, rfl⟩ : true = r1 ∧ s0_0 = r2 ∧ s0_1 = r3 ∧ x = r4 ∧ s0_3 = r5 := by simpa using h
      refine c.mono fun e w' ⟨he, n, m, hw⟩ => ?_
      subst hw
      rw [Nat.zero_add]
      exact ⟨he, IsS23.drewN (IsS23.set_2 (IsS23.drewN hI n) _) m, pw_below_drewN (below_set (pw_below_drewN hB n) hI.2) m, keep_drewN (KeepBut.set_ (keep_drewN (KeepBut.refl _ _ _) n) _ _) m⟩
    · obtain ⟨rfl, rfl, rfl, rfl, rfl⟩ : true = r1 ∧ s0_0 = r2 ∧ s0_1 = r3 ∧ s0_2 = r4 ∧ x = r5 := by simpa using h
      refine c.mono fun e w' ⟨he, n, m, hw⟩ => ?_
      subst hw
      rw [Nat.zero_add]
      exact ⟨he, IsS23.drewN (IsS23.set_3 (IsS23.drewN hI n) _) m, pw_below_drewN (below_set (pw_below_drewN hB n) hI.2) m, keep_drewN (KeepBut.set_ (keep_drewN (KeepBut.refl _ _ _) n) _ _) m⟩

/-! ### impl_Thing_act at an element of a row, by hand -/
def blk_ : Value → Nat
  | .slice (some p) _ _ => p.block
  | _ => 0
def impl_Thing_act_at.f (l0 : List (S23)) (a1 : Int) : Option (Bool × List (S23)) := if 0 ≤ a1 then (if a1 < (l0.length : Int) then some ((actF (rd_T23 l0 a1).f0 (rd_T23 l0 a1).f1 (rd_T23 l0 a1).f2 (rd_T23 l0 a1).f3).1, l0.set (a1 : Int).toNat ⟨(actF (rd_T23 l0 a1).f0 (rd_T23 l0 a1).f1 (rd_T23 l0 a1).f2 (rd_T23 l0 a1).f3).2.1, (actF (rd_T23 l0 a1).f0 (rd_T23 l0 a1).f1 (rd_T23 l0 a1).f2 (rd_T23 l0 a1).f3).2.2.1, (actF (rd_T23 l0 a1).f0 (rd_T23 l0 a1).f1 (rd_T23 l0 a1).f2 (rd_T23 l0 a1).f3).2.2.2.1, (actF (rd_T23 l0 a1).f0 (rd_T23 l0 a1).f1 (rd_T23 l0 a1).f2 (rd_T23 l0 a1).f3).2.2.2.2⟩) else none) else none
theorem set_getD_self (l : List S23) (i : Nat) (z : S23) : l.set i (l.getD i z) = l := by
  apply List.ext_getElem?
  intro j
  by_cases h : i = j
  · subst h
    by_cases hi : i < l.length
    · rw [List.getElem?_set_self hi, List.getD_eq_getElem?_getD, List.getElem?_eq_getElem hi]; rfl
    · rw [List.getElem?_eq_none (by rw [List.length_set]; omega), List.getElem?_eq_none (by omega)]
  · rw [List.getElem?_set_ne h]
theorem impl_Thing_act_at.calls (P0_ : Nat → Prop) (u0 : Value) (l0 : List (S23)) (a1 : Int) (r1 : Bool) (r2 : List (S23)) (w0 w : World) (hB : Below w0.heap.size w0 w) (ho0 : Kd.R k23 23 w w0.heap.size P0_ u0 l0) (h : impl_Thing_act_at.f l0 a1 = some (r1, r2)) :
    Calls Try.prog 86 #[.pointer (some ⟨blk_ u0, (a1 : Int).toNat * 4, none⟩)] w fun e w' => e = .returned (.bool r1) ∧ Kd.R k23 23 w' w0.heap.size (fun k_ => (P0_ k_ ∨ w.heap.size ≤ k_)) u0 r2 ∧ Below w0.heap.size w0 w' ∧ Kept w w' (fun k_ => P0_ k_) := by
  unfold impl_Thing_act_at.f at h
  by_cases h0 : 0 ≤ a1
  · by_cases h1 : a1 < (l0.length : Int)
    · rw [if_pos h0, if_pos h1] at h
      obtain ⟨g, cap, hu, hbase, hlt, cells, hc⟩ := Kd.R_form ho0 (by omega)
      subst hu
      obtain ⟨c, hcl, hM, hcc, hfr⟩ := Kd.R_elem ho0 z23 a1 h0 h1
      obtain rfl := k23_openM hM
      have hx : l0.getD a1.toNat z23 = rd_T23 l0 a1 := rfl
      have hset : l0.set a1.toNat (rd_T23 l0 a1) = l0 := set_getD_self l0 a1.toNat z23
      generalize rd_T23 l0 a1 = x at *
      have core := act_core w g (a1.toNat * 4) x.f0 x.f1 x.f2 x.f3 (by rw [← hx]; exact hcc 0 _ rfl) (by rw [← hx]; exact hcc 1 _ rfl) (by rw [← hx]; exact hcc 2 _ rfl) (by rw [← hx]; exact hcc 3 _ rfl) (hfr 2) (hfr 3)
      have hp : P0_ g := ho0.1 g rfl
      unfold actF at h
      cases hz : actW x.f0 x.f1 x.f2 x.f3 with
      | none =>
        rw [hz] at h core
        obtain ⟨rfl, rfl⟩ : false = r1 ∧ l0.set a1.toNat ⟨x.f0, x.f1, x.f2, x.f3⟩ = r2 := by simpa using h
        refine core.mono fun e w' ⟨he, n, hw⟩ => ?_
        subst hw
        have hset2 : l0.set a1.toNat ⟨x.f0, x.f1, x.f2, x.f3⟩ = l0 := hset
        rw [hset2]
        exact ⟨he, Kd.R_mono (Kd.R_drewN ho0 n) (fun k hk => .inl hk), pw_below_drewN hB n, Kept.drewN (Kept.refl w _) n⟩
      | some z =>
        obtain ⟨j, y⟩ := z
        rw [hz] at h core
        rcases actW_at hz with rfl | rfl
        · obtain ⟨rfl, rfl⟩ : true = r1 ∧ l0.set a1.toNat ⟨x.f0, x.f1, y, x.f3⟩ = r2 := by simpa using h
          refine core.mono fun e w' ⟨he, n, m, hw⟩ => ?_
          subst hw
          have hs := (Kd.R_seg (Kd.R_drewN ho0 n) a1 h0 h1 (seg := [.int .i64 y]) (j := 2) hcl hcc (show 2 + 1 ≤ 4 from by decide) (x' := ⟨x.f0, x.f1, y, x.f3⟩) (by rw [hx]; exact k23_mkM _ _ _ ⟨x.f0, x.f1, y, x.f3⟩) (fun _ hk => hk)).1
          exact ⟨he, Kd.R_drewN (Kd.R_mono hs (fun k hk => .inl hk)) m, pw_below_drewN (below_set (pw_below_drewN hB n) hbase) m, Kept.drewN (Kept.setCell (Kept.drewN (Kept.refl w _) n) (.inl hp) _) m⟩
        · obtain ⟨rfl, rfl⟩ : true = r1 ∧ l0.set a1.toNat ⟨x.f0, x.f1, x.f2, y⟩ = r2 := by simpa using h
          refine core.mono fun e w' ⟨he, n, m, hw⟩ => ?_
          subst hw
          have hs := (Kd.R_seg (Kd.R_drewN ho0 n) a1 h0 h1 (seg := [.int .i64 y]) (j := 3) hcl hcc (show 3 + 1 ≤ 4 from by decide) (x' := ⟨x.f0, x.f1, x.f2, y⟩) (by rw [hx]; exact k23_mkM _ _ _ ⟨x.f0, x.f1, x.f2, y⟩) (fun _ hk => hk)).1
          exact ⟨he, Kd.R_drewN (Kd.R_mono hs (fun k hk => .inl hk)) m, pw_below_drewN (below_set (pw_below_drewN hB n) hbase) m, Kept.drewN (Kept.setCell (Kept.drewN (Kept.refl w _) n) (.inl hp) _) m⟩
    · rw [if_pos h0, if_neg h1] at h; cases h
  · rw [if_neg h0] at h; cases h

/-! ### impl_doActs: function 95 -/
def impl_doActs.l0 : Nat → List (S23) → List Int → List Int → Int → Int → Option (Int × (List (S23)))
  | 0, _, _, _, _, _ => none
  | k + 1, x0, x1, x7, x8, x9 => if x9 < x8 then (if 0 ≤ x9 then (if x9 < (x7.length : Int) then ((impl_within.f (rd x7 x9) 0 (wrap64 ((x0.length : Int) - 1))).bind fun t190 => (if t190 = true then (if 0 ≤ (rd x7 x9) then (if (rd x7 x9) < (x0.length : Int) then ((impl_Thing_act_at.f x0 (rd x7 x9)).bind fun bt191 => (if bt191.1 = true then (impl_doActs.l0 k bt191.2 x1 x7 x8 (wrap64 (x9 + 1))) else (some (x9, bt191.2)))) else (none)) else (none)) else (some (x9, x0)))) else (none)) else (none)) else (some ((x1.length : Int), x0))
def impl_doActs.f (k : Nat) (l0 : List (S23)) (l1 : List Int) : Option (Int × (List (S23))) := impl_doActs.l0 k l0 l1 l1 (l1.length : Int) 0
theorem impl_doActs.mono_l : ∀ k, (∀ y0 y1 y2 y3 y4, LeO (impl_doActs.l0 k y0 y1 y2 y3 y4) (impl_doActs.l0 (k + 1) y0 y1 y2 y3 y4))
  | 0 => fun _ _ _ _ _ r h => by simp [impl_doActs.l0] at h
  | k + 1 => by
    have ih0 := impl_doActs.mono_l k
    · intro y0 y1 y2 y3 y4
      unfold impl_doActs.l0
      repeat' first
      | (with_reducible exact ih0 _ _ _ _ _)
      | (with_reducible exact LeO.refl _)
      | (with_reducible exact LeO.none _)
      | (with_reducible refine LeO.ite ?_ ?_)
      | (with_reducible refine LeO.bind ?_ (fun _ => ?_))
      | exact ih0 _ _ _ _ _
      | exact LeO.none _
      | refine LeO.ite ?_ ?_
      | refine LeO.bind ?_ (fun _ => ?_)
theorem impl_doActs.mono : ∀ a0 a1 k, LeO (impl_doActs.f k a0 a1) (impl_doActs.f (k + 1) a0 a1) := by
  intro a0 a1 k
  have ih0 := impl_doActs.mono_l k
  unfold impl_doActs.f
  repeat' first
      | (with_reducible exact ih0 _ _ _ _ _)
      | (with_reducible exact LeO.refl _)
      | (with_reducible exact LeO.none _)
      | (with_reducible refine LeO.ite ?_ ?_)
      | (with_reducible refine LeO.bind ?_ (fun _ => ?_))
      | exact ih0 _ _ _ _ _
      | exact LeO.none _
      | refine LeO.ite ?_ ?_
      | refine LeO.bind ?_ (fun _ => ?_)
set_option maxHeartbeats 8000000 in
set_option maxRecDepth 100000 in
theorem impl_doActs.calls (k : Nat) (P0_ : Nat → Prop) (u9000_ : Value) (l0 : List (S23)) (A1 : Option Addr) (c1 : Nat) (l1 : List Int) (r1 : Int) (r2 : List (S23)) (w0 w : World) (hB : Below w0.heap.size w0 w) (ho0 : Kd.R k23 23 w w0.heap.size P0_ u9000_ l0) (hr1 : ∀ W_, Kept w W_ (fun k_ => P0_ k_) → Kd.C (Kd.int .i64) W_ A1 l1.length l1) (hc1 : l1.length ≤ c1) (h : impl_doActs.f k l0 l1 = some (r1, r2)) :
    Calls Try.prog 95 #[u9000_, .slice A1 l1.length c1] w fun e w' => e = .returned (.int .i64 r1) ∧ Kd.R k23 23 w' w0.heap.size (fun k_ => (P0_ k_ ∨ w.heap.size ≤ k_)) u9000_ r2 ∧ Below w0.heap.size w0 w' ∧ Kept w w' (fun k_ => P0_ k_) := by
  have HO0 := Aside0.mk (show Kd.R k23 23 w w0.heap.size (fun k_ => (P0_ k_ ∨ w.heap.size ≤ k_)) u9000_ l0 from Kd.R_mono ho0 (fun k_ hk => (.inl hk)))
  have HR1 := Aside0.mk hr1
  have HC1 := Aside0.mk hc1
  clear hr1 hc1
  have HK := Aside0.mk (Kept.refl w (fun k_ => P0_ k_))
  have HW0 := Aside0.mk hB.size
  have HB := Aside0.mk hB
  clear hB
  have H : (impl_doActs.l0 k l0 l1 l1 (l1.length : Int) 0) = some (r1, r2) := h
  clear h
  have H' := Aside0.mk H
  clear H
  go_enter Try.func95, Try.ntmps95
  go_wp2
  go_loopg [9] k (fun kq v9 w' => ∃ (x0_1 : List (S23)) (x9_1 : Int), v9 = .int .i64 x9_1 ∧ Aside0 (impl_doActs.l0 kq x0_1 l1 l1 (l1.length : Int) x9_1 = some (r1, r2)) ∧ Aside0 (kq ≤ k) ∧ Aside0 (Kd.R k23 23 w' w0.heap.size (fun k_ => (P0_ k_ ∨ w.heap.size ≤ k_)) u9000_ x0_1) ∧ Aside0 (Kept w w' (fun k_ => P0_ k_)) ∧ Aside0 (Below w0.heap.size w0 w'))
  case atStart => exact ⟨(l0), (0), (by first | rfl | (simp; done) | (simp [*]; done)), H', ⟨Nat.le_refl _⟩, ⟨by (with_reducible repeat (first | apply Kd.R_alloc | apply Kd.R_drewN | apply Kd.R_drew)); exact HO0.out⟩, ⟨by repeat (first | (with_reducible first | exact HK.out | apply Kept.alloc | apply Kept.drewN | apply Kept.drew) | exact HK.out)⟩, ⟨by repeat (first | (with_reducible first | exact HB.out | apply below_alloc | apply pw_below_drewN | apply below_drew1) | exact HB.out)⟩⟩
  case round =>
    clear H'
    try clear c1
    try clear p2
    obtain ⟨x0_1, x9_1, rfl, HA, HK1, HO_0, HK, HB⟩ := hrel
    cases gk with
    | zero => exact absurd HA.out (by simp [impl_doActs.l0])
    | succ k1 =>
      have H := HA.out
      clear HA
      simp only [impl_doActs.l0] at H
      by_cases c3 : x9_1 < (l1.length : Int)
      · rw [if_pos c3] at H
        have c3b0 : decide (x9_1 < (l1.length : Int)) = true := decide_eq_true c3
        clear c3
        by_cases c4 : 0 ≤ x9_1
        · rw [if_pos c4] at H
          have c4b0 : decide (0 ≤ x9_1) = true := decide_eq_true c4
          clear c4
          by_cases c5 : x9_1 < (l1.length : Int)
          · rw [if_pos c5] at H
            have c5b0 : decide (x9_1 < (l1.length : Int)) = true := decide_eq_true c5
            clear c5
            replace H := Option.bind_eq_some_iff.mp H
            obtain ⟨t190, A60, H⟩ := H
            replace H : (if t190 = true then (if 0 ≤ (rd l1 x9_1) then (if (rd l1 x9_1) < (x0_1.length : Int) then ((impl_Thing_act_at.f x0_1 (rd l1 x9_1)).bind fun bt191 => (if bt191.1 = true then (impl_doActs.l0 k1 bt191.2 l1 l1 (l1.length : Int) (wrap64 (x9_1 + 1))) else (some (x9_1, bt191.2)))) else (none)) else (none)) else (some (x9_1, x0_1))) = some (r1, r2) := H
            have A6 := Aside0.mk A60
            clear A60
            by_cases c7 : t190 = true
            · subst c7
              have H1 : (if 0 ≤ (rd l1 x9_1) then (if (rd l1 x9_1) < (x0_1.length : Int) then ((impl_Thing_act_at.f x0_1 (rd l1 x9_1)).bind fun bt191 => (if bt191.1 = true then (impl_doActs.l0 k1 bt191.2 l1 l1 (l1.length : Int) (wrap64 (x9_1 + 1))) else (some (x9_1, bt191.2)))) else (none)) else (none)) = some (r1, r2) := by rw [if_pos rfl] at H; exact H
              clear H
              have H := H1
              clear H1
              by_cases c8 : 0 ≤ (rd l1 x9_1)
              · rw [if_pos c8] at H
                have c8b0 : decide (0 ≤ (rd l1 x9_1)) = true := decide_eq_true c8
                clear c8
                by_cases c9 : (rd l1 x9_1) < (x0_1.length : Int)
                · rw [if_pos c9] at H
                  have c9b0 : decide ((rd l1 x9_1) < (x0_1.length : Int)) = true := decide_eq_true c9
                  clear c9
                  replace H := Option.bind_eq_some_iff.mp H
                  obtain ⟨⟨t191, t192⟩, A110, H⟩ := H
                  replace H : (if t191 = true then (impl_doActs.l0 k1 t192 l1 l1 (l1.length : Int) (wrap64 (x9_1 + 1))) else (some (x9_1, t192))) = some (r1, r2) := H
                  have A11 := Aside0.mk A110
                  clear A110
                  by_cases c12 : t191 = true
                  · subst c12
                    have H1 : (impl_doActs.l0 k1 t192 l1 l1 (l1.length : Int) (wrap64 (x9_1 + 1))) = some (r1, r2) := by rw [if_pos rfl] at H; exact H
                    clear H
                    have H := H1
                    clear H1
                    have H' := Aside0.mk H
                    clear H
                    have p189 : 0 ≤ (x9_1 : Int) := of_decide_eq_true (by first | (with_reducible assumption) | assumption)
                    have q189 : x9_1 < (l1.length : Int) := of_decide_eq_true (by first | (with_reducible assumption) | assumption)
                    obtain ⟨ad189, e189, hx189_0⟩ := Kd.at_int (Kd.C_kept_now HR1.out HK.out) x9_1 p189 q189
                    cases e189
                    replace p189 := eq_true p189
                    replace q189 := eq_true q189
                    obtain ⟨Ao13, co13, eo13⟩ := Kd.R_slice HO_0.out
                    subst eo13
                    go_wp2_with (first | ((with_reducible refine gate_callee (f := 74) rfl ?_); refine goesL_ (some 18) rfl rfl Try.func74 (by kernel_rfl) rfl #[.int .i64 (rd l1 x9_1), .int .i64 0, .int .i64 (wrap64 ((x0_1.length : Int) - 1))] rfl (by (try simp only [List.map_toArray, List.map_cons, List.map_nil]); first | done | rfl | (simp only [List.length_drop, List.length_take]; rfl)) ?_; (with_reducible refine (impl_within.calls (rd l1 x9_1) 0 (wrap64 ((x0_1.length : Int) - 1)) true _ A6.out).mono ?_); rintro e w' ⟨rfl, ⟨nd, rfl⟩⟩; refine ⟨_, rfl, ?_⟩; have p10 : 0 ≤ ((rd l1 x9_1) : Int) := of_decide_eq_true (by first | (with_reducible assumption) | assumption); have q10 : ((rd l1 x9_1) : Int) < ((x0_1.length : Int) : Int) := of_decide_eq_true (by first | (with_reducible assumption) | assumption); obtain ⟨go10, co10, eo10, gb10, gl10, cl10, HG10⟩ := Kd.R_form HO_0.out (by omega); (first | cases eo10 | (injection eo10 with ea_ en_ ec_; (first | subst ea_ | (injection ea_ with ea_; subst ea_)); subst ec_; clear en_)); have GB10 := Aside0.mk gb10; have GG10 := Aside0.mk HG10; clear gb10 gl10 HG10; have HMgo10 := Aside0.mk (show (P0_ go10 ∨ w.heap.size ≤ go10) from (HO_0.out.1 _ rfl)); obtain ⟨ce10, hcl10, hM10, hcc10, hfr10⟩ := Kd.R_elem HO_0.out z23 ((rd l1 x9_1) : Int) p10 q10; obtain rfl := k23_openM hM10; have hx10_0 : wr.cell? ⟨go10, ((rd l1 x9_1) : Int).toNat * 4, none⟩ = some (.int .i64 ((rd_T23 x0_1 (rd l1 x9_1)).f0)) := hcc10 0 _ rfl; have hx10_1 : wr.cell? ⟨go10, ((rd l1 x9_1) : Int).toNat * 4 + 1, none⟩ = some (.int .i64 ((rd_T23 x0_1 (rd l1 x9_1)).f1)) := hcc10 1 _ rfl; have hx10_2 : wr.cell? ⟨go10, ((rd l1 x9_1) : Int).toNat * 4 + 2, none⟩ = some (.int .i64 ((rd_T23 x0_1 (rd l1 x9_1)).f2)) := hcc10 2 _ rfl; have hx10_3 : wr.cell? ⟨go10, ((rd l1 x9_1) : Int).toNat * 4 + 3, none⟩ = some (.int .i64 ((rd_T23 x0_1 (rd l1 x9_1)).f3)) := hcc10 3 _ rfl; have hf10_0 : wr.frozen? ⟨go10, ((rd l1 x9_1) : Int).toNat * 4, none⟩ = false := hfr10 0; have hf10_1 : wr.frozen? ⟨go10, ((rd l1 x9_1) : Int).toNat * 4 + 1, none⟩ = false := hfr10 1; have hf10_2 : wr.frozen? ⟨go10, ((rd l1 x9_1) : Int).toNat * 4 + 2, none⟩ = false := hfr10 2; have hf10_3 : wr.frozen? ⟨go10, ((rd l1 x9_1) : Int).toNat * 4 + 3, none⟩ = false := hfr10 3; clear hcl10 hcc10 hfr10 hM10; replace p10 := eq_true p10; replace q10 := eq_true q10) | (go_at_call 86; (refine (impl_Thing_act_at.calls (fun k_ => some k_ = (.slice (some ⟨go10, 0, none⟩) x0_1.length co13 : Value).ownBlock) (.slice (some ⟨go10, 0, none⟩) x0_1.length co13) x0_1 (rd l1 x9_1) true t192 w0 _ ?side1 ?side2 A11.out).mono ?_); (case side1 => repeat (first | (with_reducible first | exact HB.out | apply below_alloc | apply pw_below_drewN | apply below_drew1) | exact HB.out)); (case side2 => exact Kd.R_tight rfl HO_0.out); rintro e w14 ⟨rfl, hy0, hb, hkp⟩; have n0_ := Aside0.mk (Kd.R_reok rfl hy0 (fun k_ e_ => HO_0.out.1 k_ e_)); have n1_ := Aside0.mk (Kept.then_ (S := (fun k_ => P0_ k_)) (by repeat (first | (with_reducible first | exact HK.out | apply Kept.alloc | apply Kept.drewN | apply Kept.drew) | exact HK.out)) hkp (fun k_ hs_ => (fun e_ => (HO_0.out.1 k_ e_.symm)) hs_)); have n2_ := Aside0.mk (hb); clear HO_0; clear HK; clear HB; have HO_0 := n0_; have HK := n1_; have HB := n2_; clear n0_ n1_ n2_; (try clear hb); (try clear hkp); (try clear hy0)))
                    go_roundg k1
                    case measure => have := HK1.out; omega
                    case rel => exact ⟨(t192), (wrap64 (x9_1 + 1)), (by first | rfl | (simp; done) | (simp [*]; done)), H', ⟨by have := HK1.out; omega⟩, ⟨by (with_reducible repeat (first | apply Kd.R_alloc | apply Kd.R_drewN | apply Kd.R_drew)); exact HO_0.out⟩, ⟨by repeat (first | (with_reducible first | exact HK.out | apply Kept.alloc | apply Kept.drewN | apply Kept.drew) | exact HK.out)⟩, ⟨by repeat (first | (with_reducible first | exact HB.out | apply below_alloc | apply pw_below_drewN | apply below_drew1) | exact HB.out)⟩⟩
                  · replace c12 := Bool.eq_false_iff.mpr c12
                    subst c12
                    have H1 : (some (x9_1, t192)) = some (r1, r2) := by rw [if_neg (show ¬ (false = true) by decide)] at H; exact H
                    clear H
                    have H := H1
                    clear H1
                    simp only [Option.some.injEq, Prod.mk.injEq] at H
                    obtain ⟨rfl, rfl⟩ := H
                    have p189 : 0 ≤ (x9_1 : Int) := of_decide_eq_true (by first | (with_reducible assumption) | assumption)
                    have q189 : x9_1 < (l1.length : Int) := of_decide_eq_true (by first | (with_reducible assumption) | assumption)
                    obtain ⟨ad189, e189, hx189_0⟩ := Kd.at_int (Kd.C_kept_now HR1.out HK.out) x9_1 p189 q189
                    cases e189
                    replace p189 := eq_true p189
                    replace q189 := eq_true q189
                    obtain ⟨Ao15, co15, eo15⟩ := Kd.R_slice HO_0.out
                    subst eo15
                    go_wp2_with (first | ((with_reducible refine gate_callee (f := 74) rfl ?_); refine goesL_ (some 18) rfl rfl Try.func74 (by kernel_rfl) rfl #[.int .i64 (rd l1 x9_1), .int .i64 0, .int .i64 (wrap64 ((x0_1.length : Int) - 1))] rfl (by (try simp only [List.map_toArray, List.map_cons, List.map_nil]); first | done | rfl | (simp only [List.length_drop, List.length_take]; rfl)) ?_; (with_reducible refine (impl_within.calls (rd l1 x9_1) 0 (wrap64 ((x0_1.length : Int) - 1)) true _ A6.out).mono ?_); rintro e w' ⟨rfl, ⟨nd, rfl⟩⟩; refine ⟨_, rfl, ?_⟩; have p10 : 0 ≤ ((rd l1 x9_1) : Int) := of_decide_eq_true (by first | (with_reducible assumption) | assumption); have q10 : ((rd l1 x9_1) : Int) < ((x0_1.length : Int) : Int) := of_decide_eq_true (by first | (with_reducible assumption) | assumption); obtain ⟨go10, co10, eo10, gb10, gl10, cl10, HG10⟩ := Kd.R_form HO_0.out (by omega); (first | cases eo10 | (injection eo10 with ea_ en_ ec_; (first | subst ea_ | (injection ea_ with ea_; subst ea_)); subst ec_; clear en_)); have GB10 := Aside0.mk gb10; have GG10 := Aside0.mk HG10; clear gb10 gl10 HG10; have HMgo10 := Aside0.mk (show (P0_ go10 ∨ w.heap.size ≤ go10) from (HO_0.out.1 _ rfl)); obtain ⟨ce10, hcl10, hM10, hcc10, hfr10⟩ := Kd.R_elem HO_0.out z23 ((rd l1 x9_1) : Int) p10 q10; obtain rfl := k23_openM hM10; have hx10_0 : wr.cell? ⟨go10, ((rd l1 x9_1) : Int).toNat * 4, none⟩ = some (.int .i64 ((rd_T23 x0_1 (rd l1 x9_1)).f0)) := hcc10 0 _ rfl; have hx10_1 : wr.cell? ⟨go10, ((rd l1 x9_1) : Int).toNat * 4 + 1, none⟩ = some (.int .i64 ((rd_T23 x0_1 (rd l1 x9_1)).f1)) := hcc10 1 _ rfl; have hx10_2 : wr.cell? ⟨go10, ((rd l1 x9_1) : Int).toNat * 4 + 2, none⟩ = some (.int .i64 ((rd_T23 x0_1 (rd l1 x9_1)).f2)) := hcc10 2 _ rfl; have hx10_3 : wr.cell? ⟨go10, ((rd l1 x9_1) : Int).toNat * 4 + 3, none⟩ = some (.int .i64 ((rd_T23 x0_1 (rd l1 x9_1)).f3)) := hcc10 3 _ rfl; have hf10_0 : wr.frozen? ⟨go10, ((rd l1 x9_1) : Int).toNat * 4, none⟩ = false := hfr10 0; have hf10_1 : wr.frozen? ⟨go10, ((rd l1 x9_1) : Int).toNat * 4 + 1, none⟩ = false := hfr10 1; have hf10_2 : wr.frozen? ⟨go10, ((rd l1 x9_1) : Int).toNat * 4 + 2, none⟩ = false := hfr10 2; have hf10_3 : wr.frozen? ⟨go10, ((rd l1 x9_1) : Int).toNat * 4 + 3, none⟩ = false := hfr10 3; clear hcl10 hcc10 hfr10 hM10; replace p10 := eq_true p10; replace q10 := eq_true q10) | (go_at_call 86; (refine (impl_Thing_act_at.calls (fun k_ => some k_ = (.slice (some ⟨go10, 0, none⟩) x0_1.length co15 : Value).ownBlock) (.slice (some ⟨go10, 0, none⟩) x0_1.length co15) x0_1 (rd l1 x9_1) false t192 w0 _ ?side1 ?side2 A11.out).mono ?_); (case side1 => repeat (first | (with_reducible first | exact HB.out | apply below_alloc | apply pw_below_drewN | apply below_drew1) | exact HB.out)); (case side2 => exact Kd.R_tight rfl HO_0.out); rintro e w16 ⟨rfl, hy0, hb, hkp⟩; have n0_ := Aside0.mk (Kd.R_reok rfl hy0 (fun k_ e_ => HO_0.out.1 k_ e_)); have n1_ := Aside0.mk (Kept.then_ (S := (fun k_ => P0_ k_)) (by repeat (first | (with_reducible first | exact HK.out | apply Kept.alloc | apply Kept.drewN | apply Kept.drew) | exact HK.out)) hkp (fun k_ hs_ => (fun e_ => (HO_0.out.1 k_ e_.symm)) hs_)); have n2_ := Aside0.mk (hb); clear HO_0; clear HK; clear HB; have HO_0 := n0_; have HK := n1_; have HB := n2_; clear n0_ n1_ n2_; (try clear hb); (try clear hkp); (try clear hy0)))
                    go_ret
                    exact ⟨by first | rfl | (simp [errW_none, errW_some] <;> rfl) | (simp [*, errW_none, errW_some] <;> rfl), by (with_reducible repeat (first | apply Kd.R_alloc | apply Kd.R_drewN | apply Kd.R_drew)); exact HO_0.out, by repeat (first | (with_reducible first | exact HB.out | apply below_alloc | apply pw_below_drewN | apply below_drew1) | exact HB.out), by repeat (first | (with_reducible first | exact HK.out | apply Kept.alloc | apply Kept.drewN | apply Kept.drew) | exact HK.out)⟩
                · rw [if_neg c9] at H
                  exact absurd H (by simp)
              · rw [if_neg c8] at H
                exact absurd H (by simp)
            · replace c7 := Bool.eq_false_iff.mpr c7
              subst c7
              have H1 : (some (x9_1, x0_1)) = some (r1, r2) := by rw [if_neg (show ¬ (false = true) by decide)] at H; exact H
              clear H
              have H := H1
              clear H1
              simp only [Option.some.injEq, Prod.mk.injEq] at H
              obtain ⟨rfl, rfl⟩ := H
              have p189 : 0 ≤ (x9_1 : Int) := of_decide_eq_true (by first | (with_reducible assumption) | assumption)
              have q189 : x9_1 < (l1.length : Int) := of_decide_eq_true (by first | (with_reducible assumption) | assumption)
              obtain ⟨ad189, e189, hx189_0⟩ := Kd.at_int (Kd.C_kept_now HR1.out HK.out) x9_1 p189 q189
              cases e189
              replace p189 := eq_true p189
              replace q189 := eq_true q189
              obtain ⟨Ao17, co17, eo17⟩ := Kd.R_slice HO_0.out
              subst eo17
              go_wp2_with (first | ((with_reducible refine gate_callee (f := 74) rfl ?_); refine goesL_ (some 18) rfl rfl Try.func74 (by kernel_rfl) rfl #[.int .i64 (rd l1 x9_1), .int .i64 0, .int .i64 (wrap64 ((x0_1.length : Int) - 1))] rfl (by (try simp only [List.map_toArray, List.map_cons, List.map_nil]); first | done | rfl | (simp only [List.length_drop, List.length_take]; rfl)) ?_; (with_reducible refine (impl_within.calls (rd l1 x9_1) 0 (wrap64 ((x0_1.length : Int) - 1)) false _ A6.out).mono ?_); rintro e w' ⟨rfl, ⟨nd, rfl⟩⟩; refine ⟨_, rfl, ?_⟩))
              go_ret
              exact ⟨by first | rfl | (simp [errW_none, errW_some] <;> rfl) | (simp [*, errW_none, errW_some] <;> rfl), by (with_reducible repeat (first | apply Kd.R_alloc | apply Kd.R_drewN | apply Kd.R_drew)); exact HO_0.out, by repeat (first | (with_reducible first | exact HB.out | apply below_alloc | apply pw_below_drewN | apply below_drew1) | exact HB.out), by repeat (first | (with_reducible first | exact HK.out | apply Kept.alloc | apply Kept.drewN | apply Kept.drew) | exact HK.out)⟩
          · rw [if_neg c5] at H
            exact absurd H (by simp)
        · rw [if_neg c4] at H
          exact absurd H (by simp)
      · rw [if_neg c3] at H
        have c3b0 : decide (x9_1 < (l1.length : Int)) = false := decide_eq_false c3
        clear c3
        simp only [Option.some.injEq, Prod.mk.injEq] at H
        obtain ⟨rfl, rfl⟩ := H
        go_wp2
        go_ret
        exact ⟨by first | rfl | (simp [errW_none, errW_some] <;> rfl) | (simp [*, errW_none, errW_some] <;> rfl), by (with_reducible repeat (first | apply Kd.R_alloc | apply Kd.R_drewN | apply Kd.R_drew)); exact HO_0.out, by repeat (first | (with_reducible first | exact HB.out | apply below_alloc | apply pw_below_drewN | apply below_drew1) | exact HB.out), by repeat (first | (with_reducible first | exact HK.out | apply Kept.alloc | apply Kept.drewN | apply Kept.drew) | exact HK.out)⟩

/-! ### impl_DoAct: function 48 -/
def impl_DoAct.f (k : Nat) (l0 : List (S23)) (a1 : Int) : Option ((List (S23)) × Bool) := (impl_Thing_92.f l0).bind fun t193 => ((impl_AreThings.f k l0).bind fun t196 => (if t196 = true then ((impl_doActs.f k t193 (([a1] : List Int))).bind fun bt200 => (if bt200.1 = 0 then (some (([] : List (S23)), false)) else (some (bt200.2, true)))) else (some (([] : List (S23)), false))))
theorem impl_DoAct.mono : ∀ a0 a1 k, LeO (impl_DoAct.f k a0 a1) (impl_DoAct.f (k + 1) a0 a1) := by
  intro a0 a1 k
  unfold impl_DoAct.f
  repeat' first
      | (with_reducible exact impl_AreThings.mono _ _)
      | (with_reducible exact impl_doActs.mono _ _ _)
      | (with_reducible exact LeO.refl _)
      | (with_reducible exact LeO.none _)
      | (with_reducible refine LeO.ite ?_ ?_)
      | (with_reducible refine LeO.bind ?_ (fun _ => ?_))
      | exact impl_AreThings.mono _ _
      | exact impl_doActs.mono _ _ _
      | exact LeO.none _
      | refine LeO.ite ?_ ?_
      | refine LeO.bind ?_ (fun _ => ?_)
set_option maxHeartbeats 8000000 in
set_option maxRecDepth 100000 in
theorem impl_DoAct.calls (k : Nat) (A0 : Option Addr) (c0 : Nat) (l0 : List (S23)) (a1 : Int) (r1 : List (S23)) (r2 : Bool) (w : World) (hr0 : Kd.C k23 w A0 l0.length l0) (hc0 : l0.length ≤ c0) (h : impl_DoAct.f k l0 a1 = some (r1, r2)) :
    Calls Try.prog 48 #[.slice A0 l0.length c0, .int .i64 a1] w fun e w' => ∃ v0_ : Value, e = .returned (.tuple #[v0_, .bool r2]) ∧ Kd.R k23 23 w' w.heap.size (fun _ => True) v0_ r1 ∧ Below w.heap.size w w' := by
  have HR0 := Aside0.mk hr0
  have HC0 := Aside0.mk hc0
  clear hr0 hc0
  have HB := Aside0.mk (Below.refl w.heap.size w)
  have H : ((impl_Thing_92.f l0).bind fun t193 => ((impl_AreThings.f k l0).bind fun t196 => (if t196 = true then ((impl_doActs.f k t193 (([a1] : List Int))).bind fun bt200 => (if bt200.1 = 0 then (some (([] : List (S23)), false)) else (some (bt200.2, true)))) else (some (([] : List (S23)), false))))) = some (r1, r2) := h
  clear h
  replace H := Option.bind_eq_some_iff.mp H
  obtain ⟨t193, A30, H⟩ := H
  replace H : ((impl_AreThings.f k l0).bind fun t196 => (if t196 = true then ((impl_doActs.f k t193 (([a1] : List Int))).bind fun bt200 => (if bt200.1 = 0 then (some (([] : List (S23)), false)) else (some (bt200.2, true)))) else (some (([] : List (S23)), false)))) = some (r1, r2) := H
  have A3 := Aside0.mk A30
  clear A30
  replace H := Option.bind_eq_some_iff.mp H
  obtain ⟨t196, A40, H⟩ := H
  replace H : (if t196 = true then ((impl_doActs.f k t193 (([a1] : List Int))).bind fun bt200 => (if bt200.1 = 0 then (some (([] : List (S23)), false)) else (some (bt200.2, true)))) else (some (([] : List (S23)), false))) = some (r1, r2) := H
  have A4 := Aside0.mk A40
  clear A40
  by_cases c5 : t196 = true
  · subst c5
    have H1 : ((impl_doActs.f k t193 (([a1] : List Int))).bind fun bt200 => (if bt200.1 = 0 then (some (([] : List (S23)), false)) else (some (bt200.2, true)))) = some (r1, r2) := by rw [if_pos rfl] at H; exact H
    clear H
    have H := H1
    clear H1
    obtain ⟨y197, hy197⟩ : ∃ y_ : List Int, y_ = (([a1] : List Int)) := ⟨_, rfl⟩
    replace H : ((impl_doActs.f k t193 y197).bind fun bt200 => (if bt200.1 = 0 then (some (([] : List (S23)), false)) else (some (bt200.2, true)))) = some (r1, r2) := by first | (rw [hy197]; with_reducible exact H) | (have H2_ := (Option.bind_some _ _).symm.trans H; rw [hy197]; with_reducible exact H2_) | (have H2_ := (Option.bind_some _ _).symm.trans H; with_reducible exact H2_) | with_reducible exact H | (rw [hy197]; exact H) | exact H
    have Ny197 := Aside0.mk hy197
    clear hy197
    replace H := Option.bind_eq_some_iff.mp H
    obtain ⟨⟨t200, t201⟩, A60, H⟩ := H
    replace H : (if t200 = 0 then (some (([] : List (S23)), false)) else (some (t201, true))) = some (r1, r2) := H
    have A6 := Aside0.mk A60
    clear A60
    by_cases c7 : t200 = 0
    · rw [if_pos c7] at H
      have c7b0 : (t200 == 0) = true := beq_iff_eq.mpr c7
      have c7b1 : (t200 != 0) = false := bne_eq_false_iff_eq.mpr c7
      clear c7
      simp only [Option.some.injEq, Prod.mk.injEq] at H
      obtain ⟨rfl, rfl⟩ := H
      go_enter Try.func48, Try.ntmps48
      go_wp2_with (first | ((with_reducible refine gate_callee (f := 92) rfl ?_); refine goesL_ (some 8) rfl rfl Try.func92 (by kernel_rfl) rfl #[.slice A0 l0.length c0] rfl (by (try simp only [List.map_toArray, List.map_cons, List.map_nil]); first | done | rfl | (simp only [List.length_drop, List.length_take]; rfl)) ?_; (with_reducible refine (impl_Thing_92.calls _ _ l0 t193 _ ?side1 ?side2 A3.out).mono ?_); (case side1 => repeat (first | exact HR0.out | (with_reducible refine Kd.C_alloc ?_ _) | (with_reducible refine Kd.C_drewN ?_ _) | (with_reducible refine Kd.C_drew ?_))); (case side2 => exact HC0.out); rintro e w8 ⟨v194, rfl, ho0, hb⟩; refine ⟨_, rfl, ?_⟩; have n0_ := Aside0.mk (Kd.R_lower ho0 (below_size (by repeat (first | (with_reducible first | exact HB.out | apply below_alloc | apply pw_below_drewN | apply below_drew1) | exact HB.out)))); have n1_ := Aside0.mk (below_step (by repeat (first | (with_reducible first | exact HB.out | apply below_alloc | apply pw_below_drewN | apply below_drew1) | exact HB.out)) hb); clear HB; have HO195 := n0_; have HB := n1_; clear n0_ n1_; (try clear hb); (try clear hb2); (try clear hk); (try clear hi); (try clear ho0)) | ((with_reducible refine gate_callee (f := 23) rfl ?_); refine goesL_ (some 10) rfl rfl Try.func23 (by kernel_rfl) rfl #[.slice A0 l0.length c0] rfl (by (try simp only [List.map_toArray, List.map_cons, List.map_nil]); first | done | rfl | (simp only [List.length_drop, List.length_take]; rfl)) ?_; (with_reducible refine (impl_AreThings.calls k _ _ l0 true _ ?side1 ?side2 A4.out).mono ?_); (case side1 => repeat (first | exact (Kd.C_below HR0.out HB.out) | (with_reducible refine Kd.C_alloc ?_ _) | (with_reducible refine Kd.C_drewN ?_ _) | (with_reducible refine Kd.C_drew ?_))); (case side2 => exact HC0.out); rintro e w9 ⟨rfl, hb⟩; refine ⟨_, rfl, ?_⟩; have n0_ := Aside0.mk (Kd.R_below (by (with_reducible repeat (first | apply Kd.R_alloc | apply Kd.R_drewN | apply Kd.R_drew)); exact HO195.out) hb); have n1_ := Aside0.mk (below_step (by repeat (first | (with_reducible first | exact HB.out | apply below_alloc | apply pw_below_drewN | apply below_drew1) | exact HB.out)) hb); clear HO195; clear HB; have HO195 := n0_; have HB := n1_; clear n0_ n1_; (try clear hb); (try clear hb2); (try clear hk); (try clear hi)) | ((with_reducible refine gate_dst (N := 15) rfl ?_); (try (refine gate_guard (by rfl) ?_; dsimp only)); refine Kd.R_lit (Kd.int .i64) _ 3 ?hg (N := 15) ?hd (xs := ([a1] : List Int)) (inner := [.int .i64 a1]) (ok := fun _ => True) (okp := fun _ => True) ?hr ?hp (fun _ hk => hk) trivial (Below.refl _ _) (Nat.le_refl _) (by simp) ?_; (case hd => rfl); (case hg => rfl); (case hr => first | (go_simp; done) | (go_simp; rfl)); (case hp => exact (Reps.one (show Kd.M (Kd.int .i64) _ _ _ a1 [.int .i64 a1] from rfl) (Reps.none _ _))); intro v198 w10 ho11 hb hg_ hnew_; clear hg_ hnew_; (first | rw [← Ny197.out] at ho11 | (simp only [Int.reduceToNat] at ho11; rw [← Ny197.out] at ho11)); have n0_ := Aside0.mk (Kd.R_below (by (with_reducible repeat (first | apply Kd.R_alloc | apply Kd.R_drewN | apply Kd.R_drew)); exact HO195.out) hb); have n1_ := Aside0.mk (Kd.R_lower ho11 (below_size (by repeat (first | (with_reducible first | exact HB.out | apply below_alloc | apply pw_below_drewN | apply below_drew1) | exact HB.out)))); have n2_ := Aside0.mk (below_step (by repeat (first | (with_reducible first | exact HB.out | apply below_alloc | apply pw_below_drewN | apply below_drew1) | exact HB.out)) hb); clear HO195; clear HB; have HO195 := n0_; have HO199 := n1_; have HB := n2_; clear n0_ n1_ n2_; clear hb ho11; obtain ⟨Ao12, co12, eo12⟩ := Kd.R_slice HO195.out; subst eo12; obtain ⟨Ao13, co13, eo13⟩ := Kd.R_slice HO199.out; subst eo13) | (go_at_call 95; (with_reducible refine (impl_doActs.calls k (fun k_ => some k_ = (.slice Ao12 t193.length co12 : Value).ownBlock) (.slice Ao12 t193.length co12) t193 _ _ y197 t200 t201 w _ ?side1 ?side2 ?side3 ?side4 A6.out).mono ?_); (case side1 => repeat (first | (with_reducible first | exact HB.out | apply below_alloc | apply pw_below_drewN | apply below_drew1) | exact HB.out)); (case side2 => exact Kd.R_tight rfl HO195.out); (case side3 => exact Kd.C_kept_own ((Kd.R_apart' HO199.out (Kd.R_typed HO195.out) (by decide))) (fun k_ hk_ hs_ => (hk_.2) hs_)); (case side4 => exact (Kd.R_reads' HO199.out).2.1); rintro e w14 ⟨rfl, hy0, hb, hkp⟩; have n0_ := Aside0.mk (Kd.R_reok rfl hy0 (fun k_ e_ => HO195.out.1 k_ e_)); have n1_ := Aside0.mk (Kd.R_mono (ok' := fun k_ => True) (Kd.R_keptB ((Kd.R_apart' HO199.out (Kd.R_typed HO195.out) (by decide))) hkp (fun k_ hk_ hs_ => (hk_.2) hs_)) (fun k_ hk_ => trivial)); have n2_ := Aside0.mk (hb); clear HO195; clear HO199; clear HB; have HO195 := n0_; have HO199 := n1_; have HB := n2_; clear n0_ n1_ n2_; (try clear hb); (try clear hkp); (try clear hy0)))
      go_ret2
      exact ⟨_, by first | rfl | (simp [errW_none, errW_some] <;> rfl) | (simp [*, errW_none, errW_some] <;> rfl), by first | exact Kd.R_nil _ _ _ _ _ | exact Kd.N_nil _ _ _ _ _ | exact Kd.V_nil _ _ _ _ _ | exact Kd.Q_nil _ _ _ _ _ | exact Kd.S_nil _ _ _ _ _, by repeat (first | (with_reducible first | exact HB.out | apply below_alloc | apply pw_below_drewN | apply below_drew1) | exact HB.out)⟩
    · rw [if_neg c7] at H
      have c7b0 : (t200 == 0) = false := beq_eq_false_iff_ne.mpr c7
      have c7b1 : (t200 != 0) = true := bne_iff_ne.mpr c7
      simp only [Option.some.injEq, Prod.mk.injEq] at H
      obtain ⟨rfl, rfl⟩ := H
      go_enter Try.func48, Try.ntmps48
      go_wp2_with (first | ((with_reducible refine gate_callee (f := 92) rfl ?_); refine goesL_ (some 8) rfl rfl Try.func92 (by kernel_rfl) rfl #[.slice A0 l0.length c0] rfl (by (try simp only [List.map_toArray, List.map_cons, List.map_nil]); first | done | rfl | (simp only [List.length_drop, List.length_take]; rfl)) ?_; (with_reducible refine (impl_Thing_92.calls _ _ l0 t193 _ ?side1 ?side2 A3.out).mono ?_); (case side1 => repeat (first | exact HR0.out | (with_reducible refine Kd.C_alloc ?_ _) | (with_reducible refine Kd.C_drewN ?_ _) | (with_reducible refine Kd.C_drew ?_))); (case side2 => exact HC0.out); rintro e w15 ⟨v194, rfl, ho0, hb⟩; refine ⟨_, rfl, ?_⟩; have n0_ := Aside0.mk (Kd.R_lower ho0 (below_size (by repeat (first | (with_reducible first | exact HB.out | apply below_alloc | apply pw_below_drewN | apply below_drew1) | exact HB.out)))); have n1_ := Aside0.mk (below_step (by repeat (first | (with_reducible first | exact HB.out | apply below_alloc | apply pw_below_drewN | apply below_drew1) | exact HB.out)) hb); clear HB; have HO195 := n0_; have HB := n1_; clear n0_ n1_; (try clear hb); (try clear hb2); (try clear hk); (try clear hi); (try clear ho0)) | ((with_reducible refine gate_callee (f := 23) rfl ?_); refine goesL_ (some 10) rfl rfl Try.func23 (by kernel_rfl) rfl #[.slice A0 l0.length c0] rfl (by (try simp only [List.map_toArray, List.map_cons, List.map_nil]); first | done | rfl | (simp only [List.length_drop, List.length_take]; rfl)) ?_; (with_reducible refine (impl_AreThings.calls k _ _ l0 true _ ?side1 ?side2 A4.out).mono ?_); (case side1 => repeat (first | exact (Kd.C_below HR0.out HB.out) | (with_reducible refine Kd.C_alloc ?_ _) | (with_reducible refine Kd.C_drewN ?_ _) | (with_reducible refine Kd.C_drew ?_))); (case side2 => exact HC0.out); rintro e w16 ⟨rfl, hb⟩; refine ⟨_, rfl, ?_⟩; have n0_ := Aside0.mk (Kd.R_below (by (with_reducible repeat (first | apply Kd.R_alloc | apply Kd.R_drewN | apply Kd.R_drew)); exact HO195.out) hb); have n1_ := Aside0.mk (below_step (by repeat (first | (with_reducible first | exact HB.out | apply below_alloc | apply pw_below_drewN | apply below_drew1) | exact HB.out)) hb); clear HO195; clear HB; have HO195 := n0_; have HB := n1_; clear n0_ n1_; (try clear hb); (try clear hb2); (try clear hk); (try clear hi)) | ((with_reducible refine gate_dst (N := 15) rfl ?_); (try (refine gate_guard (by rfl) ?_; dsimp only)); refine Kd.R_lit (Kd.int .i64) _ 3 ?hg (N := 15) ?hd (xs := ([a1] : List Int)) (inner := [.int .i64 a1]) (ok := fun _ => True) (okp := fun _ => True) ?hr ?hp (fun _ hk => hk) trivial (Below.refl _ _) (Nat.le_refl _) (by simp) ?_; (case hd => rfl); (case hg => rfl); (case hr => first | (go_simp; done) | (go_simp; rfl)); (case hp => exact (Reps.one (show Kd.M (Kd.int .i64) _ _ _ a1 [.int .i64 a1] from rfl) (Reps.none _ _))); intro v198 w17 ho18 hb hg_ hnew_; clear hg_ hnew_; (first | rw [← Ny197.out] at ho18 | (simp only [Int.reduceToNat] at ho18; rw [← Ny197.out] at ho18)); have n0_ := Aside0.mk (Kd.R_below (by (with_reducible repeat (first | apply Kd.R_alloc | apply Kd.R_drewN | apply Kd.R_drew)); exact HO195.out) hb); have n1_ := Aside0.mk (Kd.R_lower ho18 (below_size (by repeat (first | (with_reducible first | exact HB.out | apply below_alloc | apply pw_below_drewN | apply below_drew1) | exact HB.out)))); have n2_ := Aside0.mk (below_step (by repeat (first | (with_reducible first | exact HB.out | apply below_alloc | apply pw_below_drewN | apply below_drew1) | exact HB.out)) hb); clear HO195; clear HB; have HO195 := n0_; have HO199 := n1_; have HB := n2_; clear n0_ n1_ n2_; clear hb ho18; obtain ⟨Ao19, co19, eo19⟩ := Kd.R_slice HO195.out; subst eo19; obtain ⟨Ao20, co20, eo20⟩ := Kd.R_slice HO199.out; subst eo20) | (go_at_call 95; (with_reducible refine (impl_doActs.calls k (fun k_ => some k_ = (.slice Ao19 t193.length co19 : Value).ownBlock) (.slice Ao19 t193.length co19) t193 _ _ y197 t200 t201 w _ ?side1 ?side2 ?side3 ?side4 A6.out).mono ?_); (case side1 => repeat (first | (with_reducible first | exact HB.out | apply below_alloc | apply pw_below_drewN | apply below_drew1) | exact HB.out)); (case side2 => exact Kd.R_tight rfl HO195.out); (case side3 => exact Kd.C_kept_own ((Kd.R_apart' HO199.out (Kd.R_typed HO195.out) (by decide))) (fun k_ hk_ hs_ => (hk_.2) hs_)); (case side4 => exact (Kd.R_reads' HO199.out).2.1); rintro e w21 ⟨rfl, hy0, hb, hkp⟩; have n0_ := Aside0.mk (Kd.R_reok rfl hy0 (fun k_ e_ => HO195.out.1 k_ e_)); have n1_ := Aside0.mk (Kd.R_mono (ok' := fun k_ => True) (Kd.R_keptB ((Kd.R_apart' HO199.out (Kd.R_typed HO195.out) (by decide))) hkp (fun k_ hk_ hs_ => (hk_.2) hs_)) (fun k_ hk_ => trivial)); have n2_ := Aside0.mk (hb); clear HO195; clear HO199; clear HB; have HO195 := n0_; have HO199 := n1_; have HB := n2_; clear n0_ n1_ n2_; (try clear hb); (try clear hkp); (try clear hy0)))
      go_ret2
      exact ⟨_, by first | rfl | (simp [errW_none, errW_some] <;> rfl) | (simp [*, errW_none, errW_some] <;> rfl), by (with_reducible repeat (first | apply Kd.R_alloc | apply Kd.R_drewN | apply Kd.R_drew)); exact HO195.out, by repeat (first | (with_reducible first | exact HB.out | apply below_alloc | apply pw_below_drewN | apply below_drew1) | exact HB.out)⟩
  · replace c5 := Bool.eq_false_iff.mpr c5
    subst c5
    have H1 : (some (([] : List (S23)), false)) = some (r1, r2) := by rw [if_neg (show ¬ (false = true) by decide)] at H; exact H
    clear H
    have H := H1
    clear H1
    simp only [Option.some.injEq, Prod.mk.injEq] at H
    obtain ⟨rfl, rfl⟩ := H
    go_enter Try.func48, Try.ntmps48
    go_wp2_with (first | ((with_reducible refine gate_callee (f := 92) rfl ?_); refine goesL_ (some 8) rfl rfl Try.func92 (by kernel_rfl) rfl #[.slice A0 l0.length c0] rfl (by (try simp only [List.map_toArray, List.map_cons, List.map_nil]); first | done | rfl | (simp only [List.length_drop, List.length_take]; rfl)) ?_; (with_reducible refine (impl_Thing_92.calls _ _ l0 t193 _ ?side1 ?side2 A3.out).mono ?_); (case side1 => repeat (first | exact HR0.out | (with_reducible refine Kd.C_alloc ?_ _) | (with_reducible refine Kd.C_drewN ?_ _) | (with_reducible refine Kd.C_drew ?_))); (case side2 => exact HC0.out); rintro e w22 ⟨v194, rfl, ho0, hb⟩; refine ⟨_, rfl, ?_⟩; have n0_ := Aside0.mk (Kd.R_lower ho0 (below_size (by repeat (first | (with_reducible first | exact HB.out | apply below_alloc | apply pw_below_drewN | apply below_drew1) | exact HB.out)))); have n1_ := Aside0.mk (below_step (by repeat (first | (with_reducible first | exact HB.out | apply below_alloc | apply pw_below_drewN | apply below_drew1) | exact HB.out)) hb); clear HB; have HO195 := n0_; have HB := n1_; clear n0_ n1_; (try clear hb); (try clear hb2); (try clear hk); (try clear hi); (try clear ho0)) | ((with_reducible refine gate_callee (f := 23) rfl ?_); refine goesL_ (some 10) rfl rfl Try.func23 (by kernel_rfl) rfl #[.slice A0 l0.length c0] rfl (by (try simp only [List.map_toArray, List.map_cons, List.map_nil]); first | done | rfl | (simp only [List.length_drop, List.length_take]; rfl)) ?_; (with_reducible refine (impl_AreThings.calls k _ _ l0 false _ ?side1 ?side2 A4.out).mono ?_); (case side1 => repeat (first | exact (Kd.C_below HR0.out HB.out) | (with_reducible refine Kd.C_alloc ?_ _) | (with_reducible refine Kd.C_drewN ?_ _) | (with_reducible refine Kd.C_drew ?_))); (case side2 => exact HC0.out); rintro e w23 ⟨rfl, hb⟩; refine ⟨_, rfl, ?_⟩; have n0_ := Aside0.mk (Kd.R_below (by (with_reducible repeat (first | apply Kd.R_alloc | apply Kd.R_drewN | apply Kd.R_drew)); exact HO195.out) hb); have n1_ := Aside0.mk (below_step (by repeat (first | (with_reducible first | exact HB.out | apply below_alloc | apply pw_below_drewN | apply below_drew1) | exact HB.out)) hb); clear HO195; clear HB; have HO195 := n0_; have HB := n1_; clear n0_ n1_; (try clear hb); (try clear hb2); (try clear hk); (try clear hi)))
    go_ret2
    exact ⟨_, by first | rfl | (simp [errW_none, errW_some] <;> rfl) | (simp [*, errW_none, errW_some] <;> rfl), by first | exact Kd.R_nil _ _ _ _ _ | exact Kd.N_nil _ _ _ _ _ | exact Kd.V_nil _ _ _ _ _ | exact Kd.Q_nil _ _ _ _ _ | exact Kd.S_nil _ _ _ _ _, by repeat (first | (with_reducible first | exact HB.out | apply below_alloc | apply pw_below_drewN | apply below_drew1) | exact HB.out)⟩

end Go.Proofs.Ytogpednapceljaa.PA
