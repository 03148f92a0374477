/- The fuses that texts tell: their contracts. Conditions: those each lemma names. -/
import Derived.Test.YthloakjlpblakaaDoorHandC
import Derived.Deep.QuietTactic
import Derived.BigQuiet
set_option linter.unusedVariables false
set_option linter.unusedSimpArgs false
namespace Go.Proofs.YthloakjlpblakaaDoor.PB
open Go.RowKit Go.Proofs.YthloakjlpblakaaDoorW.PrintWords Go.Proofs.YthloakjlpblakaaDoorW.PrintLast Go.Proofs.YthloakjlpblakaaDoorW.PrintMore Go.Proofs.YthloakjlpblakaaDoorX

set_option maxHeartbeats 4000000 in
set_option maxRecDepth 100000 in
theorem parse_big (s : ByteArray) (w : World) (h : (s.size : Int) > 33) : Calls Tryd.prog 10 #[.string s] w (FPost w none) := by
  have hd : decide (33 < (s.size : Int)) = true := decide_eq_true h
  clear h
  go_enter Tryd.func10, Tryd.ntmps10
  go_wp2
  go_ret
  exact ⟨none, rfl, trivial, Below.refl _ _⟩
set_option maxHeartbeats 4000000 in
set_option maxRecDepth 100000 in
theorem parse_none (s r : ByteArray) (w : World) (h : ¬ (s.size : Int) > 33) (c : Aside0 (∀ W, Calls Tryd.prog 13 #[.string s] W fun e w' => e = .returned (.tuple #[.pointer none, .string r]) ∧ Aside0 (Below W.heap.size W w'))) : Calls Tryd.prog 10 #[.string s] w (FPost w none) := by
  have hd : decide (33 < (s.size : Int)) = false := decide_eq_false h
  clear h
  go_enter Tryd.func10, Tryd.ntmps10
  go_wp2_with (go_at_call 13; (with_reducible refine (c.out _).mono ?_); rintro e w1 ⟨rfl, hb1⟩)
  go_ret
  exact ⟨none, rfl, trivial, hb1.out⟩
set_option maxHeartbeats 4000000 in
set_option maxRecDepth 100000 in
theorem parse_some (s r : ByteArray) (w : World) (a : FT) (h : ¬ (s.size : Int) > 33) (c : Aside0 (∀ W, Calls Tryd.prog 13 #[.string s] W fun e w' => ∃ g, e = .returned (.tuple #[.pointer (some ⟨g, 0, none⟩), .string r]) ∧ Aside0 (FRel w' (some g) (some a)) ∧ Aside0 (Below W.heap.size W w')))
    (hr : r.toList = []) : Calls Tryd.prog 10 #[.string s] w (FPost w (some a)) := by
  have hd : decide (33 < (s.size : Int)) = false := decide_eq_false h
  have hr2 : (r.toList == []) = true := by rw [hr]; rfl
  have hr3 : (!r.toList.isEmpty) = false := by rw [hr]; rfl
  clear h
  go_enter Tryd.func10, Tryd.ntmps10
  go_wp2_with (go_at_call 13; (with_reducible refine (c.out _).mono ?_); rintro e w1 ⟨g1, rfl, hf1, hb1⟩)
  go_ret
  exact ⟨some g1, rfl, hf1.out, hb1.out⟩
set_option maxHeartbeats 4000000 in
set_option maxRecDepth 100000 in
theorem parse_rest (s r : ByteArray) (w : World) (a : FT) (h : ¬ (s.size : Int) > 33) (c : Aside0 (∀ W, Calls Tryd.prog 13 #[.string s] W fun e w' => ∃ g, e = .returned (.tuple #[.pointer (some ⟨g, 0, none⟩), .string r]) ∧ Aside0 (FRel w' (some g) (some a)) ∧ Aside0 (Below W.heap.size W w')))
    (hr : ¬ r.toList = []) : Calls Tryd.prog 10 #[.string s] w (FPost w none) := by
  have hd : decide (33 < (s.size : Int)) = false := decide_eq_false h
  have hr2 : (r.toList == []) = false := by simpa using hr
  have hr3 : (!r.toList.isEmpty) = true := by simpa using hr
  have hr4 : r.toList.isEmpty = false := by simpa using hr
  clear h hr
  go_enter Tryd.func10, Tryd.ntmps10
  go_wp2_with (go_at_call 13; (with_reducible refine (c.out _).mono ?_); rintro e w1 ⟨g1, rfl, hf1, hb1⟩)
  go_ret
  exact ⟨none, rfl, trivial, hb1.out⟩
theorem parse_calls (k : Nat) (s : ByteArray) (w : World) (z : Option FT) (h : parseF k s = some z) : Calls Tryd.prog 10 #[.string s] w (FPost w z) := by
  unfold parseF at h
  by_cases h1 : (s.size : Int) > 33
  · rw [if_pos h1] at h
    obtain rfl := Option.some.inj h
    exact parse_big s w h1
  · rw [if_neg h1] at h
    obtain ⟨⟨t, r⟩, e1, h⟩ := Option.bind_eq_some_iff.mp h
    simp only [Option.some.injEq] at h
    cases t with
    | none =>
      have : z = none := by rw [← h]; split <;> rfl
      subst this
      exact parse_none s r w h1 ⟨fun W => rpost_none (read_calls k k s W _ _ e1)⟩
    | some a =>
      by_cases h2 : r.toList = []
      · rw [if_pos h2] at h
        subst h
        exact parse_some s r w a h1 ⟨fun W => rpost_some (read_calls k k s W _ _ e1)⟩ h2
      · rw [if_neg h2] at h
        subst h
        exact parse_rest s r w a h1 ⟨fun W => rpost_some (read_calls k k s W _ _ e1)⟩ h2

def isF (k : Nat) (s : ByteArray) : Option Bool := (parseF k s).bind fun z => some z.isSome
set_option maxHeartbeats 4000000 in
set_option maxRecDepth 100000 in
theorem isF_calls (k : Nat) (s : ByteArray) (r : Bool) (w : World) (h : isF k s = some r) : Calls Tryd.prog 7 #[.string s] w fun e w' => e = .returned (.bool r) ∧ Below w.heap.size w w' := by
  obtain ⟨z, hz, h⟩ := Option.bind_eq_some_iff.mp h
  obtain rfl := Option.some.inj h
  cases z with
  | none =>
    have c := Aside0.mk (fun W => fpost_none (parse_calls k s W none hz))
    clear hz h
    go_enter Tryd.func7, Tryd.ntmps7
    go_wp2_with (go_at_call 10; (with_reducible refine (c.out _).mono ?_); rintro e w1 ⟨rfl, hb1⟩)
    go_ret
    exact ⟨rfl, hb1.out⟩
  | some a =>
    have c := Aside0.mk (fun W => fpost_some (parse_calls k s W (some a) hz))
    clear hz h
    go_enter Tryd.func7, Tryd.ntmps7
    go_wp2_with (go_at_call 10; (with_reducible refine (c.out _).mono ?_); rintro e w1 ⟨g1, rfl, hf1, hb1⟩)
    go_ret
    exact ⟨rfl, hb1.out⟩
theorem FT.join_mono (k : Nat) (a b : Option FT) : LeO (FT.join k a b) (FT.join (k + 1) a b) := by
  intro r h
  cases a with
  | none => exact h
  | some a =>
    cases b with
    | none => exact h
    | some b =>
      simp only [FT.join] at h ⊢
      split at h
      · rename_i hr
        rw [if_pos hr]
        obtain ⟨z, hz, h⟩ := Option.bind_eq_some_iff.mp h
        exact Option.bind_eq_some_iff.mpr ⟨z, impl_fused.mono _ _ _ _ _ _ hz, h⟩
      · rename_i hr
        rw [if_neg hr]; exact h
theorem readF_mono (k : Nat) : ∀ (n : Nat) (s : ByteArray), LeO (readF k n s) (readF (k + 1) (n + 1) s) := by
  intro n
  induction n with
  | zero => intro s r h; cases h
  | succ n ih =>
    intro s r h
    rw [readF] at h ⊢
    split at h
    · rename_i h1; rw [if_pos h1]; exact h
    · rename_i h1
      rw [if_neg h1]
      split at h
      · rename_i h2
        rw [if_pos h2]
        obtain ⟨x, hx, h⟩ := Option.bind_eq_some_iff.mp h
        refine Option.bind_eq_some_iff.mpr ⟨x, ih _ _ hx, ?_⟩
        cases hx1 : x.1 with
        | none => rw [hx1] at h; exact h
        | some a =>
          rw [hx1] at h
          simp only at h ⊢
          obtain ⟨y, hy, h⟩ := Option.bind_eq_some_iff.mp h
          obtain ⟨z, hz, h⟩ := Option.bind_eq_some_iff.mp h
          exact Option.bind_eq_some_iff.mpr ⟨y, ih _ _ hy, Option.bind_eq_some_iff.mpr ⟨z, FT.join_mono _ _ _ _ hz, h⟩⟩
      · rename_i h2
        rw [if_neg h2]; exact h
theorem parseF_mono (k : Nat) (s : ByteArray) : LeO (parseF k s) (parseF (k + 1) s) := by
  intro r h
  unfold parseF at h ⊢
  split at h
  · rename_i h1; rw [if_pos h1]; exact h
  · rename_i h1
    rw [if_neg h1]
    obtain ⟨x, hx, h⟩ := Option.bind_eq_some_iff.mp h
    exact Option.bind_eq_some_iff.mpr ⟨x, readF_mono _ _ _ _ hx, h⟩
theorem isF_mono (s : ByteArray) (k : Nat) : LeO (isF k s) (isF (k + 1) s) := LeO.bind (parseF_mono k s) (fun _ => LeO.refl _)
end Go.Proofs.YthloakjlpblakaaDoor.PB
