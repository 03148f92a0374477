/- The fuses that texts tell: their contracts. Conditions: those each lemma names. -/
import Derived.Test.YthloakjlpblakaaHandC
import Derived.Deep.QuietTactic
import Derived.BigQuiet
set_option linter.unusedVariables false
set_option linter.unusedSimpArgs false
namespace Go.Proofs.Ythloakjlpblakaa.PB
open Go.RowKit Go.Proofs.YthloakjlpblakaaW.PrintWords Go.Proofs.YthloakjlpblakaaW.PrintLast Go.Proofs.YthloakjlpblakaaW.PrintMore Go.Proofs.YthloakjlpblakaaX

set_option maxHeartbeats 4000000 in
set_option maxRecDepth 100000 in
theorem parse_big (s : ByteArray) (w : World) (h : (s.size : Int) > 33) : Calls Try.prog 52 #[.string s] w (FPost w none) := by
  have hd : decide (33 < (s.size : Int)) = true := decide_eq_true h
  clear h
  go_enter Try.func52, Try.ntmps52
  go_wp2
  go_ret
  exact ⟨none, rfl, trivial, Below.refl _ _⟩
set_option maxHeartbeats 4000000 in
set_option maxRecDepth 100000 in
theorem parse_none (s r : ByteArray) (w : World) (h : ¬ (s.size : Int) > 33) (c : Aside0 (∀ W, Calls Try.prog 76 #[.string s] W fun e w' => e = .returned (.tuple #[.pointer none, .string r]) ∧ Aside0 (Below W.heap.size W w'))) : Calls Try.prog 52 #[.string s] w (FPost w none) := by
  have hd : decide (33 < (s.size : Int)) = false := decide_eq_false h
  clear h
  go_enter Try.func52, Try.ntmps52
  go_wp2_with (go_at_call 76; (with_reducible refine (c.out _).mono ?_); rintro e w1 ⟨rfl, hb1⟩)
  go_ret
  exact ⟨none, rfl, trivial, hb1.out⟩
set_option maxHeartbeats 4000000 in
set_option maxRecDepth 100000 in
theorem parse_some (s r : ByteArray) (w : World) (a : FT) (h : ¬ (s.size : Int) > 33) (c : Aside0 (∀ W, Calls Try.prog 76 #[.string s] W fun e w' => ∃ g, e = .returned (.tuple #[.pointer (some ⟨g, 0, none⟩), .string r]) ∧ Aside0 (FRel w' (some g) (some a)) ∧ Aside0 (Below W.heap.size W w')))
    (hr : r.toList = []) : Calls Try.prog 52 #[.string s] w (FPost w (some a)) := by
  have hd : decide (33 < (s.size : Int)) = false := decide_eq_false h
  have hr2 : (r.toList == []) = true := by rw [hr]; rfl
  have hr3 : (!r.toList.isEmpty) = false := by rw [hr]; rfl
  clear h
  go_enter Try.func52, Try.ntmps52
  go_wp2_with (go_at_call 76; (with_reducible refine (c.out _).mono ?_); rintro e w1 ⟨g1, rfl, hf1, hb1⟩)
  go_ret
  exact ⟨some g1, rfl, hf1.out, hb1.out⟩
set_option maxHeartbeats 4000000 in
set_option maxRecDepth 100000 in
theorem parse_rest (s r : ByteArray) (w : World) (a : FT) (h : ¬ (s.size : Int) > 33) (c : Aside0 (∀ W, Calls Try.prog 76 #[.string s] W fun e w' => ∃ g, e = .returned (.tuple #[.pointer (some ⟨g, 0, none⟩), .string r]) ∧ Aside0 (FRel w' (some g) (some a)) ∧ Aside0 (Below W.heap.size W w')))
    (hr : ¬ r.toList = []) : Calls Try.prog 52 #[.string s] w (FPost w none) := by
  have hd : decide (33 < (s.size : Int)) = false := decide_eq_false h
  have hr2 : (r.toList == []) = false := by simpa using hr
  have hr3 : (!r.toList.isEmpty) = true := by simpa using hr
  have hr4 : r.toList.isEmpty = false := by simpa using hr
  clear h hr
  go_enter Try.func52, Try.ntmps52
  go_wp2_with (go_at_call 76; (with_reducible refine (c.out _).mono ?_); rintro e w1 ⟨g1, rfl, hf1, hb1⟩)
  go_ret
  exact ⟨none, rfl, trivial, hb1.out⟩
theorem parse_calls (k : Nat) (s : ByteArray) (w : World) (z : Option FT) (h : parseF k s = some z) : Calls Try.prog 52 #[.string s] w (FPost w z) := by
  unfold parseF at h
  by_cases h1 : (s.size : Int) > 33
  · rw [if_pos h1] at h
    obtain rfl := Option.some.inj h
    exact parse_big s w h1
  · rw [if_neg h1] at h
    obtain ⟨⟨t, r⟩, e1, h⟩ := Option.bind_eq_some_iff.mp h
    simp only [Option.some.injEq] at h
    cases t with
    | none =>
      have : z = none := by rw [← h]; split <;> rfl
      subst this
      exact parse_none s r w h1 ⟨fun W => rpost_none (read_calls k k s W _ _ e1)⟩
    | some a =>
      by_cases h2 : r.toList = []
      · rw [if_pos h2] at h
        subst h
        exact parse_some s r w a h1 ⟨fun W => rpost_some (read_calls k k s W _ _ e1)⟩ h2
      · rw [if_neg h2] at h
        subst h
        exact parse_rest s r w a h1 ⟨fun W => rpost_some (read_calls k k s W _ _ e1)⟩ h2

def isF (k : Nat) (s : ByteArray) : Option Bool := (parseF k s).bind fun z => some z.isSome
def ropesF (k : Nat) (s : ByteArray) : Option (Int × Bool) := (parseF k s).bind fun z => some (match z with | some a => ((a.ropes : Int), true) | none => (0, false))
def timeF (k : Nat) (s : ByteArray) : Option (Int × Int × Bool) := (parseF k s).bind fun z => some (match z with | some a => (a.time.1, a.time.2, true) | none => (0, 0, false))
set_option maxHeartbeats 4000000 in
set_option maxRecDepth 100000 in
theorem isF_calls (k : Nat) (s : ByteArray) (r : Bool) (w : World) (h : isF k s = some r) : Calls Try.prog 18 #[.string s] w fun e w' => e = .returned (.bool r) ∧ Below w.heap.size w w' := by
  obtain ⟨z, hz, h⟩ := Option.bind_eq_some_iff.mp h
  obtain rfl := Option.some.inj h
  cases z with
  | none =>
    have c := Aside0.mk (fun W => fpost_none (parse_calls k s W none hz))
    clear hz h
    go_enter Try.func18, Try.ntmps18
    go_wp2_with (go_at_call 52; (with_reducible refine (c.out _).mono ?_); rintro e w1 ⟨rfl, hb1⟩)
    go_ret
    exact ⟨rfl, hb1.out⟩
  | some a =>
    have c := Aside0.mk (fun W => fpost_some (parse_calls k s W (some a) hz))
    clear hz h
    go_enter Try.func18, Try.ntmps18
    go_wp2_with (go_at_call 52; (with_reducible refine (c.out _).mono ?_); rintro e w1 ⟨g1, rfl, hf1, hb1⟩)
    go_ret
    exact ⟨rfl, hb1.out⟩
set_option maxHeartbeats 4000000 in
set_option maxRecDepth 100000 in
theorem ropesF_calls (k : Nat) (s : ByteArray) (r1 : Int) (r2 : Bool) (w : World) (h : ropesF k s = some (r1, r2)) : Calls Try.prog 20 #[.string s] w fun e w' => e = .returned (.tuple #[.int .i64 r1, .bool r2]) ∧ Below w.heap.size w w' := by
  obtain ⟨z, hz, h⟩ := Option.bind_eq_some_iff.mp h
  cases z with
  | none =>
    obtain ⟨rfl, rfl⟩ := Prod.mk.inj (Option.some.inj h)
    have c := Aside0.mk (fun W => fpost_none (parse_calls k s W none hz))
    clear hz h
    go_enter Try.func20, Try.ntmps20
    go_wp2_with (go_at_call 52; (with_reducible refine (c.out _).mono ?_); rintro e w1 ⟨rfl, hb1⟩)
    go_ret2
    exact ⟨rfl, hb1.out⟩
  | some a =>
    obtain ⟨rfl, rfl⟩ := Prod.mk.inj (Option.some.inj h)
    have c := Aside0.mk (fun W => fpost_some (parse_calls k s W (some a) hz))
    clear hz h
    go_enter Try.func20, Try.ntmps20
    go_wp2_with (go_at_call 52; (with_reducible refine (c.out _).mono ?_); rintro e w1 ⟨g1, rfl, hf1, hb1⟩; obtain ⟨va, vb, hc⟩ := hf1.out.1.cells; have c5 := (blk_cell hc 5).trans rfl; clear hc)
    go_ret2
    exact ⟨rfl, hb1.out⟩
set_option maxHeartbeats 4000000 in
set_option maxRecDepth 100000 in
theorem timeF_calls (k : Nat) (s : ByteArray) (r1 r2 : Int) (r3 : Bool) (w : World) (h : timeF k s = some (r1, r2, r3)) : Calls Try.prog 22 #[.string s] w fun e w' => e = .returned (.tuple #[.agg #[.int .i64 r1, .int .i64 r2], .bool r3]) ∧ Below w.heap.size w w' := by
  obtain ⟨z, hz, h⟩ := Option.bind_eq_some_iff.mp h
  cases z with
  | none =>
    simp only [Option.some.injEq, Prod.mk.injEq] at h
    obtain ⟨rfl, rfl, rfl⟩ := h
    have c := Aside0.mk (fun W => fpost_none (parse_calls k s W none hz))
    clear hz h
    go_enter Try.func22, Try.ntmps22
    go_wp2_with (go_at_call 52; (with_reducible refine (c.out _).mono ?_); rintro e w1 ⟨rfl, hb1⟩; obtain ⟨hcc, hff⟩ := fz_bcell hb1.out)
    exact bodyPost_ret (v := .tuple #[.agg #[.int .i64 0, .int .i64 0], .bool false]) (by simp [results, Try.results22, go_sem, hcc]) rfl ⟨rfl, below_set (below_set (below_step (below_alloc (Below.refl _ _) _) hb1.out) (Nat.le_refl _)) (Nat.le_refl _)⟩
  | some a =>
    simp only [Option.some.injEq, Prod.mk.injEq] at h
    obtain ⟨rfl, rfl, rfl⟩ := h
    have c := Aside0.mk (fun W => fpost_some (parse_calls k s W (some a) hz))
    clear hz h
    go_enter Try.func22, Try.ntmps22
    go_wp2_with (go_at_call 52; (with_reducible refine (c.out _).mono ?_); rintro e w1 ⟨g1, rfl, hf1, hb1⟩; obtain ⟨va, vb, hc⟩ := hf1.out.1.cells; have c3 := (blk_cell hc 3).trans rfl; have c4 := (blk_cell hc 4).trans rfl; clear hc; obtain ⟨hcc, hff⟩ := fz_bcell hb1.out)
    exact bodyPost_ret (v := .tuple #[.agg #[.int .i64 a.time.1, .int .i64 a.time.2], .bool true]) (by simp [results, Try.results22, go_sem, hcc]) rfl ⟨rfl, below_set (below_set (below_step (below_alloc (Below.refl _ _) _) hb1.out) (Nat.le_refl _)) (Nat.le_refl _)⟩
/-- The fuse's text with all ropes turned. -/
def FT.turn : FT → ByteArray
  | .spark => ⟨#[46]⟩
  | .node _ _ a b => (((⟨#[40]⟩ : ByteArray) ++ b.turn) ++ a.turn) ++ ⟨#[41]⟩
theorem FT.turn_size : ∀ t : FT, t.turn.size = 3 * t.ropes + 1
  | .spark => rfl
  | .node _ _ a b => by
    simp only [FT.turn, FT.ropes, ByteArray.size_append, FT.turn_size a, FT.turn_size b]
    show 1 + _ + _ + 1 = _
    omega
theorem FAt.drewN {w : World} (n : Nat) {t : FT} {g : Nat} (h : FAt w t g) : FAt (w.drewN n) t g := h.below (pw_below_drewN (Below.refl _ _) n)
set_option maxHeartbeats 4000000 in
set_option maxRecDepth 100000 in
theorem turned_calls : ∀ (t : FT) (w : World) (g : Nat), FAt w t g → t.ropes ≤ 8 → Calls Try.prog 54 #[.pointer (some ⟨g, 0, none⟩)] w fun e w' => e = .returned (.string t.turn) ∧ ∃ n, w' = w.drewN n := by
  intro t
  induction t with
  | spark =>
    intro w g h _
    have c5 : w.cell? ⟨g, 5, none⟩ = some (.int .i64 0) := (blk_cell h 5).trans rfl
    clear h
    go_enter Try.func54, Try.ntmps54
    go_wp2
    go_ret
    exact ⟨rfl, 0, rfl⟩
  | node n d a b iha ihb =>
    intro w g h hr
    obtain ⟨ga, gb, hc, hA, hB⟩ := h
    have hA := Aside0.mk hA
    have hB := Aside0.mk hB
    have c0 : w.cell? ⟨g, 0, none⟩ = some (.pointer (some ⟨ga, 0, none⟩)) := (blk_cell hc 0).trans rfl
    have c1 : w.cell? ⟨g, 1, none⟩ = some (.pointer (some ⟨gb, 0, none⟩)) := (blk_cell hc 1).trans rfl
    have sa := a.turn_size
    have sb := b.turn_size
    simp only [FT.ropes] at hr
    obtain ⟨m, hm⟩ : ∃ m : Int, m = (((FT.node n d a b).ropes : Nat) : Int) := ⟨_, rfl⟩
    have c5 : w.cell? ⟨g, 5, none⟩ = some (.int .i64 m) := by rw [hm]; exact (blk_cell hc 5).trans rfl
    have hm0 : (m == 0) = false := by
      have : m ≠ 0 := by rw [hm]; simp only [FT.ropes]; omega
      simpa using this
    have s1 : (9223372036854775807 < 1 + b.turn.size) = False := eq_false (by omega)
    have s2 : (9223372036854775807 < 1 + b.turn.size + a.turn.size) = False := eq_false (by omega)
    have s3 : (9223372036854775807 < 1 + b.turn.size + a.turn.size + 1) = False := eq_false (by omega)
    have ra : a.ropes ≤ 8 := by omega
    have rb : b.ropes ≤ 8 := by omega
    have CA : Aside0 (∀ n, Calls Try.prog 54 #[.pointer (some ⟨ga, 0, none⟩)] (w.drewN n) fun e w'' => e = .returned (.string a.turn) ∧ ∃ m, w'' = w.drewN m) := ⟨fun n => Calls.quiet_of (iha _ _ (FAt.drewN _ hA.out) ra)⟩
    have CB : Aside0 (∀ n, Calls Try.prog 54 #[.pointer (some ⟨gb, 0, none⟩)] (w.drewN n) fun e w'' => e = .returned (.string b.turn) ∧ ∃ m, w'' = w.drewN m) := ⟨fun n => Calls.quiet_of (ihb _ _ (FAt.drewN _ hB.out) rb)⟩
    show Calls Try.prog 54 #[.pointer (some ⟨g, 0, none⟩)] w fun e w' => e = .returned (.string ((((⟨#[40]⟩ : ByteArray) ++ b.turn) ++ a.turn) ++ ⟨#[41]⟩)) ∧ ∃ n, w' = w.drewN n
    clear iha ihb hc hm sa sb
    generalize a.turn = ta at s2 s3 CA ⊢
    generalize b.turn = tb at s1 s2 s3 CB ⊢
    go_enter Try.func54, Try.ntmps54
    go_wp2
    go_quiet (first
      | (go_at_call_of 54 (Value.pointer (some ⟨gb, 0, none⟩)); exact CB.out _)
      | (go_at_call_of 54 (Value.pointer (some ⟨ga, 0, none⟩)); exact CA.out _))
    go_wp2
    go_ret
    exact ⟨rfl, _, rfl⟩
def turnF (k : Nat) (s : ByteArray) : Option (ByteArray × Bool) := (parseF k s).bind fun z => some (match z with | some a => (a.turn, true) | none => (⟨#[]⟩, false))
set_option maxHeartbeats 4000000 in
set_option maxRecDepth 100000 in
theorem turnF_calls (k : Nat) (s : ByteArray) (r1 : ByteArray) (r2 : Bool) (w : World) (h : turnF k s = some (r1, r2)) : Calls Try.prog 25 #[.string s] w fun e w' => e = .returned (.tuple #[.string r1, .bool r2]) ∧ Below w.heap.size w w' := by
  obtain ⟨z, hz, h⟩ := Option.bind_eq_some_iff.mp h
  cases z with
  | none =>
    simp only [Option.some.injEq, Prod.mk.injEq] at h
    obtain ⟨rfl, rfl⟩ := h
    have c := Aside0.mk (fun W => fpost_none (parse_calls k s W none hz))
    clear hz
    go_enter Try.func25, Try.ntmps25
    go_wp2_with (go_at_call 52; (with_reducible refine (c.out _).mono ?_); rintro e w1 ⟨rfl, hb1⟩)
    go_ret2
    exact ⟨rfl, hb1.out⟩
  | some a =>
    simp only [Option.some.injEq, Prod.mk.injEq] at h
    obtain ⟨rfl, rfl⟩ := h
    have c := Aside0.mk (fun W => fpost_some (parse_calls k s W (some a) hz))
    clear hz
    go_enter Try.func25, Try.ntmps25
    go_wp2_with (first | (go_at_call 52; (with_reducible refine (c.out _).mono ?_); rintro e w1 ⟨g1, rfl, hf1, hb1⟩; obtain ⟨hfa, hfr⟩ := hf1.out; replace hfa := Aside0.mk hfa) | (go_at_call 54; (with_reducible refine (turned_calls a _ g1 hfa.out hfr).mono ?_); rintro e w2 ⟨rfl, ⟨nd, rfl⟩⟩))
    go_ret2
    exact ⟨rfl, pw_below_drewN hb1.out _⟩

/-! ### More rounds tell the same -/
theorem FT.join_mono (k : Nat) (a b : Option FT) : LeO (FT.join k a b) (FT.join (k + 1) a b) := by
  intro r h
  cases a with
  | none => exact h
  | some a =>
    cases b with
    | none => exact h
    | some b =>
      simp only [FT.join] at h ⊢
      split at h
      · rename_i hr
        rw [if_pos hr]
        obtain ⟨z, hz, h⟩ := Option.bind_eq_some_iff.mp h
        exact Option.bind_eq_some_iff.mpr ⟨z, impl_fused.mono _ _ _ _ _ _ hz, h⟩
      · rename_i hr
        rw [if_neg hr]; exact h
theorem readF_mono (k : Nat) : ∀ (n : Nat) (s : ByteArray), LeO (readF k n s) (readF (k + 1) (n + 1) s) := by
  intro n
  induction n with
  | zero => intro s r h; cases h
  | succ n ih =>
    intro s r h
    rw [readF] at h ⊢
    split at h
    · rename_i h1; rw [if_pos h1]; exact h
    · rename_i h1
      rw [if_neg h1]
      split at h
      · rename_i h2
        rw [if_pos h2]
        obtain ⟨x, hx, h⟩ := Option.bind_eq_some_iff.mp h
        refine Option.bind_eq_some_iff.mpr ⟨x, ih _ _ hx, ?_⟩
        cases hx1 : x.1 with
        | none => rw [hx1] at h; exact h
        | some a =>
          rw [hx1] at h
          simp only at h ⊢
          obtain ⟨y, hy, h⟩ := Option.bind_eq_some_iff.mp h
          obtain ⟨z, hz, h⟩ := Option.bind_eq_some_iff.mp h
          exact Option.bind_eq_some_iff.mpr ⟨y, ih _ _ hy, Option.bind_eq_some_iff.mpr ⟨z, FT.join_mono _ _ _ _ hz, h⟩⟩
      · rename_i h2
        rw [if_neg h2]; exact h
theorem parseF_mono (k : Nat) (s : ByteArray) : LeO (parseF k s) (parseF (k + 1) s) := by
  intro r h
  unfold parseF at h ⊢
  split at h
  · rename_i h1; rw [if_pos h1]; exact h
  · rename_i h1
    rw [if_neg h1]
    obtain ⟨x, hx, h⟩ := Option.bind_eq_some_iff.mp h
    exact Option.bind_eq_some_iff.mpr ⟨x, readF_mono _ _ _ _ hx, h⟩
theorem isF_mono (s : ByteArray) (k : Nat) : LeO (isF k s) (isF (k + 1) s) := LeO.bind (parseF_mono k s) (fun _ => LeO.refl _)
theorem ropesF_mono (s : ByteArray) (k : Nat) : LeO (ropesF k s) (ropesF (k + 1) s) := LeO.bind (parseF_mono k s) (fun _ => LeO.refl _)
theorem timeF_mono (s : ByteArray) (k : Nat) : LeO (timeF k s) (timeF (k + 1) s) := LeO.bind (parseF_mono k s) (fun _ => LeO.refl _)
theorem turnF_mono (s : ByteArray) (k : Nat) : LeO (turnF k s) (turnF (k + 1) s) := LeO.bind (parseF_mono k s) (fun _ => LeO.refl _)
end Go.Proofs.Ythloakjlpblakaa.PB
