/- The reader of fuses. Conditions: those each lemma names. -/
import Derived.Test.YthloakjlpblakaaDoorHandB
set_option linter.unusedVariables false
set_option linter.unusedSimpArgs false
namespace Go.Proofs.YthloakjlpblakaaDoor.PB
open Go.RowKit Go.Proofs.YthloakjlpblakaaDoorW.PrintWords Go.Proofs.YthloakjlpblakaaDoorW.PrintLast Go.Proofs.YthloakjlpblakaaDoorW.PrintMore Go.Proofs.YthloakjlpblakaaDoorX

/-- What a call of the reader leaves. -/
def RPost (w : World) (z : Option FT) (rest : ByteArray) (e : Ending) (w' : World) : Prop := ∃ o, e = .returned (.tuple #[fptr o, .string rest]) ∧ FRel w' o z ∧ Below w.heap.size w w'
theorem rpost_some {w : World} {a : FT} {rest : ByteArray} {s : ByteArray} (h : Calls Tryd.prog 13 #[.string s] w (RPost w (some a) rest)) :
    Calls Tryd.prog 13 #[.string s] w fun e w' => ∃ g, e = .returned (.tuple #[.pointer (some ⟨g, 0, none⟩), .string rest]) ∧ Aside0 (FRel w' (some g) (some a)) ∧ Aside0 (Below w.heap.size w w') :=
  h.mono fun e w' ⟨o, h1, h2, h3⟩ => match o, h1, h2 with
    | some g, h1, h2 => ⟨g, h1, ⟨h2⟩, ⟨h3⟩⟩
    | none, _, h2 => h2.elim
theorem rpost_none {w : World} {rest : ByteArray} {s : ByteArray} (h : Calls Tryd.prog 13 #[.string s] w (RPost w none rest)) :
    Calls Tryd.prog 13 #[.string s] w fun e w' => e = .returned (.tuple #[.pointer none, .string rest]) ∧ Aside0 (Below w.heap.size w w') :=
  h.mono fun e w' ⟨o, h1, h2, h3⟩ => match o, h1, h2 with
    | none, h1, _ => ⟨h1, ⟨h3⟩⟩
    | some _, _, h2 => h2.elim
theorem fpost_some {f : Nat} {args : Array Value} {w : World} {a : FT} (h : Calls Tryd.prog f args w (FPost w (some a))) :
    Calls Tryd.prog f args w fun e w' => ∃ g, e = .returned (.pointer (some ⟨g, 0, none⟩)) ∧ Aside0 (FRel w' (some g) (some a)) ∧ Aside0 (Below w.heap.size w w') :=
  h.mono fun e w' ⟨o, h1, h2, h3⟩ => match o, h1, h2 with
    | some g, h1, h2 => ⟨g, h1, ⟨h2⟩, ⟨h3⟩⟩
    | none, _, h2 => h2.elim
theorem fpost_none {f : Nat} {args : Array Value} {w : World} (h : Calls Tryd.prog f args w (FPost w none)) :
    Calls Tryd.prog f args w fun e w' => e = .returned (.pointer none) ∧ Aside0 (Below w.heap.size w w') :=
  h.mono fun e w' ⟨o, h1, h2, h3⟩ => match o, h1, h2 with
    | none, h1, _ => ⟨h1, ⟨h3⟩⟩
    | some _, _, h2 => h2.elim
set_option maxHeartbeats 4000000 in
set_option maxRecDepth 100000 in
theorem read_spark (s : ByteArray) (w : World) (hX : fpre s 46 = true) : Calls Tryd.prog 13 #[.string s] w (RPost w (some .spark) (s.extract 1 s.size)) := by
      have P46 := Aside0.mk (show strings_HasPrefix.f s ⟨#[46]⟩ = some true by rw [fpre_has, hX])
      have hs : 1 ≤ s.size := by
        unfold fpre at hX; simp at hX; omega
      have hs1 : (1 ≤ (s.size : Int)) = True := eq_true (by omega)
      have hs2 : decide (1 ≤ (s.size : Int)) = true := decide_eq_true (by omega)
      have hs3 : (1 ≤ s.size) = True := eq_true hs
      clear hX
      go_enter Tryd.func13, Tryd.ntmps13
      go_wp2_with (go_at_call 21; (with_reducible refine (strings_HasPrefix.calls s ⟨#[46]⟩ true _ P46.out).mono ?_); rintro e w46 ⟨rfl, ⟨nd46, rfl⟩⟩)
      go_region_with (go_at_call 22; refine (spark_calls _).mono ?_; rintro e w9 ⟨rfl, rfl⟩)
      all_goals
        go_wp2
        go_ret2
        exact ⟨some _, rfl, ⟨by first | exact blk_new _ _ | exact blk_drew (blk_new _ _) | exact blk_drewN (blk_new _ _) _, by decide⟩, by repeat (first | exact Below.refl _ _ | apply below_alloc | apply below_drew1 | apply pw_below_drewN)⟩
set_option maxHeartbeats 4000000 in
set_option maxRecDepth 100000 in
theorem read_not (s : ByteArray) (w : World) (h46 : fpre s 46 = false) (h40 : fpre s 40 = false) : Calls Tryd.prog 13 #[.string s] w (RPost w none ⟨#[]⟩) := by
      have P46 := Aside0.mk (show strings_HasPrefix.f s ⟨#[46]⟩ = some false by rw [fpre_has, h46])
      have P40 := Aside0.mk (show strings_HasPrefix.f s ⟨#[40]⟩ = some false by rw [fpre_has, h40])
      clear h46 h40
      go_enter Tryd.func13, Tryd.ntmps13
      go_wp2_with (first | (go_at_call 21; (with_reducible refine (strings_HasPrefix.calls s ⟨#[46]⟩ false _ P46.out).mono ?_); rintro e w46 ⟨rfl, ⟨nd46, rfl⟩⟩) | (go_at_call 21; (with_reducible refine (strings_HasPrefix.calls s ⟨#[40]⟩ false _ P40.out).mono ?_); rintro e w40 ⟨rfl, ⟨nd40, rfl⟩⟩))
      go_ret2
      exact ⟨none, rfl, trivial, by repeat (first | exact Below.refl _ _ | apply below_alloc | apply below_drew1 | apply pw_below_drewN)⟩
set_option maxHeartbeats 4000000 in
set_option maxRecDepth 100000 in
theorem read_one (s : ByteArray) (w : World) (h46 : fpre s 46 = false) (hX : fpre s 40 = true) (r1 : ByteArray) (c1 : Aside0 (∀ W, Calls Tryd.prog 13 #[.string (s.extract 1 s.size)] W fun e w' => e = .returned (.tuple #[.pointer none, .string r1]) ∧ Aside0 (Below W.heap.size W w'))) : Calls Tryd.prog 13 #[.string s] w (RPost w none ⟨#[]⟩) := by
      have P46 := Aside0.mk (show strings_HasPrefix.f s ⟨#[46]⟩ = some false by rw [fpre_has, h46])
      have P40 := Aside0.mk (show strings_HasPrefix.f s ⟨#[40]⟩ = some true by rw [fpre_has, hX])
      have hs : 1 ≤ s.size := by
        unfold fpre at hX; simp at hX; omega
      have hs1 : (1 ≤ (s.size : Int)) = True := eq_true (by omega)
      have hs2 : decide (1 ≤ (s.size : Int)) = true := decide_eq_true (by omega)
      have hs3 : (1 ≤ s.size) = True := eq_true hs
      clear h46 hX
      go_enter Tryd.func13, Tryd.ntmps13
      go_wp2_with (first | (go_at_call 21; (with_reducible refine (strings_HasPrefix.calls s ⟨#[46]⟩ false _ P46.out).mono ?_); rintro e w46 ⟨rfl, ⟨nd46, rfl⟩⟩) | (go_at_call 21; (with_reducible refine (strings_HasPrefix.calls s ⟨#[40]⟩ true _ P40.out).mono ?_); rintro e w40 ⟨rfl, ⟨nd40, rfl⟩⟩) | (go_at_call 13; (with_reducible refine (c1.out _).mono ?_); rintro e w1 ⟨rfl, hb1⟩))
      go_ret2
      exact ⟨none, rfl, trivial, below_step (by repeat (first | exact Below.refl _ _ | apply below_drew1 | apply pw_below_drewN)) hb1.out⟩
set_option maxHeartbeats 4000000 in
set_option maxRecDepth 100000 in
theorem read_two (s : ByteArray) (w : World) (h46 : fpre s 46 = false) (hX : fpre s 40 = true) (s1 s2 r3 : ByteArray) (o3 : Bool) (a : FT) (c1 : Aside0 (∀ W, Calls Tryd.prog 13 #[.string (s.extract 1 s.size)] W fun e w' => ∃ g, e = .returned (.tuple #[.pointer (some ⟨g, 0, none⟩), .string s1]) ∧ Aside0 (FRel w' (some g) (some a)) ∧ Aside0 (Below W.heap.size W w'))) (c2 : Aside0 (∀ W, Calls Tryd.prog 13 #[.string s1] W fun e w' => e = .returned (.tuple #[.pointer none, .string s2]) ∧ Aside0 (Below W.heap.size W w'))) (P41 : Aside0 (strings_CutPrefix.f s2 ⟨#[41]⟩ = some (r3, o3))) : Calls Tryd.prog 13 #[.string s] w (RPost w none ⟨#[]⟩) := by
      have P46 := Aside0.mk (show strings_HasPrefix.f s ⟨#[46]⟩ = some false by rw [fpre_has, h46])
      have P40 := Aside0.mk (show strings_HasPrefix.f s ⟨#[40]⟩ = some true by rw [fpre_has, hX])
      have hs : 1 ≤ s.size := by
        unfold fpre at hX; simp at hX; omega
      have hs1 : (1 ≤ (s.size : Int)) = True := eq_true (by omega)
      have hs2 : decide (1 ≤ (s.size : Int)) = true := decide_eq_true (by omega)
      have hs3 : (1 ≤ s.size) = True := eq_true hs
      clear h46 hX
      go_enter Tryd.func13, Tryd.ntmps13
      go_wp2_with (first | (go_at_call 21; (with_reducible refine (strings_HasPrefix.calls s ⟨#[46]⟩ false _ P46.out).mono ?_); rintro e w46 ⟨rfl, ⟨nd46, rfl⟩⟩) | (go_at_call 21; (with_reducible refine (strings_HasPrefix.calls s ⟨#[40]⟩ true _ P40.out).mono ?_); rintro e w40 ⟨rfl, ⟨nd40, rfl⟩⟩) | (go_at_call 13; (with_reducible refine (c1.out _).mono ?_); rintro e w1 ⟨g1, rfl, hf1, hb1⟩) | (go_at_call 13; (with_reducible refine (c2.out _).mono ?_); rintro e w2 ⟨rfl, hb2⟩) | (go_at_call 23; (with_reducible refine (strings_CutPrefix.calls s2 ⟨#[41]⟩ r3 o3 _ P41.out).mono ?_); rintro e w3 ⟨rfl, ⟨nd41, rfl⟩⟩) | (go_at_call 24; refine (join_none2 _ g1).mono ?_; rintro e w4 ⟨rfl, hb4⟩; replace hb4 := Aside0.mk hb4))
      all_goals
        go_ret2
        exact ⟨none, rfl, trivial, below_step (pw_below_drewN (below_step (below_step (pw_below_drewN (Below.refl _ _) _) hb1.out) hb2.out) _) hb4.out⟩
set_option maxHeartbeats 4000000 in
set_option maxRecDepth 100000 in
theorem read_three (s : ByteArray) (w : World) (h46 : fpre s 46 = false) (hX : fpre s 40 = true) (s1 s2 r3 : ByteArray) (o3 : Bool) (a b : FT) (c1 : Aside0 (∀ W, Calls Tryd.prog 13 #[.string (s.extract 1 s.size)] W fun e w' => ∃ g, e = .returned (.tuple #[.pointer (some ⟨g, 0, none⟩), .string s1]) ∧ Aside0 (FRel w' (some g) (some a)) ∧ Aside0 (Below W.heap.size W w'))) (c2 : Aside0 (∀ W, Calls Tryd.prog 13 #[.string s1] W fun e w' => ∃ g, e = .returned (.tuple #[.pointer (some ⟨g, 0, none⟩), .string s2]) ∧ Aside0 (FRel w' (some g) (some b)) ∧ Aside0 (Below W.heap.size W w'))) (P41 : Aside0 (strings_CutPrefix.f s2 ⟨#[41]⟩ = some (r3, o3))) (c4 : Aside0 (∀ W g1 g2, FRel W (some g1) (some a) → FRel W (some g2) (some b) → Calls Tryd.prog 24 #[.pointer (some ⟨g1, 0, none⟩), .pointer (some ⟨g2, 0, none⟩)] W fun e w' => e = .returned (.pointer none) ∧ Aside0 (Below W.heap.size W w'))) : Calls Tryd.prog 13 #[.string s] w (RPost w none ⟨#[]⟩) := by
      have P46 := Aside0.mk (show strings_HasPrefix.f s ⟨#[46]⟩ = some false by rw [fpre_has, h46])
      have P40 := Aside0.mk (show strings_HasPrefix.f s ⟨#[40]⟩ = some true by rw [fpre_has, hX])
      have hs : 1 ≤ s.size := by
        unfold fpre at hX; simp at hX; omega
      have hs1 : (1 ≤ (s.size : Int)) = True := eq_true (by omega)
      have hs2 : decide (1 ≤ (s.size : Int)) = true := decide_eq_true (by omega)
      have hs3 : (1 ≤ s.size) = True := eq_true hs
      clear h46 hX
      go_enter Tryd.func13, Tryd.ntmps13
      go_wp2_with (first | (go_at_call 21; (with_reducible refine (strings_HasPrefix.calls s ⟨#[46]⟩ false _ P46.out).mono ?_); rintro e w46 ⟨rfl, ⟨nd46, rfl⟩⟩) | (go_at_call 21; (with_reducible refine (strings_HasPrefix.calls s ⟨#[40]⟩ true _ P40.out).mono ?_); rintro e w40 ⟨rfl, ⟨nd40, rfl⟩⟩) | (go_at_call 13; (with_reducible refine (c1.out _).mono ?_); rintro e w1 ⟨g1, rfl, hf1, hb1⟩) | (go_at_call 13; (with_reducible refine (c2.out _).mono ?_); rintro e w2 ⟨g2, rfl, hf2, hb2⟩) | (go_at_call 23; (with_reducible refine (strings_CutPrefix.calls s2 ⟨#[41]⟩ r3 o3 _ P41.out).mono ?_); rintro e w3 ⟨rfl, ⟨nd41, rfl⟩⟩) | (go_at_call 24; (with_reducible refine (c4.out _ g1 g2 (FRel.below (pw_below_drewN (Below.refl _ _) _) (FRel.below hb2.out hf1.out)) (FRel.below (pw_below_drewN (Below.refl _ _) _) hf2.out)).mono ?_); rintro e w4 ⟨rfl, hb4⟩))
      all_goals
        go_ret2
        exact ⟨none, rfl, trivial, below_step (pw_below_drewN (below_step (below_step (pw_below_drewN (Below.refl _ _) _) hb1.out) hb2.out) _) hb4.out⟩
set_option maxHeartbeats 4000000 in
set_option maxRecDepth 100000 in
theorem read_four (s : ByteArray) (w : World) (h46 : fpre s 46 = false) (hX : fpre s 40 = true) (s1 s2 r3 : ByteArray) (a b : FT) (c1 : Aside0 (∀ W, Calls Tryd.prog 13 #[.string (s.extract 1 s.size)] W fun e w' => ∃ g, e = .returned (.tuple #[.pointer (some ⟨g, 0, none⟩), .string s1]) ∧ Aside0 (FRel w' (some g) (some a)) ∧ Aside0 (Below W.heap.size W w'))) (c2 : Aside0 (∀ W, Calls Tryd.prog 13 #[.string s1] W fun e w' => ∃ g, e = .returned (.tuple #[.pointer (some ⟨g, 0, none⟩), .string s2]) ∧ Aside0 (FRel w' (some g) (some b)) ∧ Aside0 (Below W.heap.size W w'))) (P41 : Aside0 (strings_CutPrefix.f s2 ⟨#[41]⟩ = some (r3, false))) (f : FT) (c4 : Aside0 (∀ W g1 g2, FRel W (some g1) (some a) → FRel W (some g2) (some b) → Calls Tryd.prog 24 #[.pointer (some ⟨g1, 0, none⟩), .pointer (some ⟨g2, 0, none⟩)] W fun e w' => ∃ g, e = .returned (.pointer (some ⟨g, 0, none⟩)) ∧ Aside0 (FRel w' (some g) (some f)) ∧ Aside0 (Below W.heap.size W w'))) : Calls Tryd.prog 13 #[.string s] w (RPost w none ⟨#[]⟩) := by
      have P46 := Aside0.mk (show strings_HasPrefix.f s ⟨#[46]⟩ = some false by rw [fpre_has, h46])
      have P40 := Aside0.mk (show strings_HasPrefix.f s ⟨#[40]⟩ = some true by rw [fpre_has, hX])
      have hs : 1 ≤ s.size := by
        unfold fpre at hX; simp at hX; omega
      have hs1 : (1 ≤ (s.size : Int)) = True := eq_true (by omega)
      have hs2 : decide (1 ≤ (s.size : Int)) = true := decide_eq_true (by omega)
      have hs3 : (1 ≤ s.size) = True := eq_true hs
      clear h46 hX
      go_enter Tryd.func13, Tryd.ntmps13
      go_wp2_with (first | (go_at_call 21; (with_reducible refine (strings_HasPrefix.calls s ⟨#[46]⟩ false _ P46.out).mono ?_); rintro e w46 ⟨rfl, ⟨nd46, rfl⟩⟩) | (go_at_call 21; (with_reducible refine (strings_HasPrefix.calls s ⟨#[40]⟩ true _ P40.out).mono ?_); rintro e w40 ⟨rfl, ⟨nd40, rfl⟩⟩) | (go_at_call 13; (with_reducible refine (c1.out _).mono ?_); rintro e w1 ⟨g1, rfl, hf1, hb1⟩) | (go_at_call 13; (with_reducible refine (c2.out _).mono ?_); rintro e w2 ⟨g2, rfl, hf2, hb2⟩) | (go_at_call 23; (with_reducible refine (strings_CutPrefix.calls s2 ⟨#[41]⟩ r3 false _ P41.out).mono ?_); rintro e w3 ⟨rfl, ⟨nd41, rfl⟩⟩) | (go_at_call 24; (with_reducible refine (c4.out _ g1 g2 (FRel.below (pw_below_drewN (Below.refl _ _) _) (FRel.below hb2.out hf1.out)) (FRel.below (pw_below_drewN (Below.refl _ _) _) hf2.out)).mono ?_); rintro e w4 ⟨g4, rfl, hf4, hb4⟩))
      all_goals
        go_ret2
        exact ⟨none, rfl, trivial, below_step (pw_below_drewN (below_step (below_step (pw_below_drewN (Below.refl _ _) _) hb1.out) hb2.out) _) hb4.out⟩
set_option maxHeartbeats 4000000 in
set_option maxRecDepth 100000 in
theorem read_five (s : ByteArray) (w : World) (h46 : fpre s 46 = false) (hX : fpre s 40 = true) (s1 s2 r3 : ByteArray) (a b : FT) (c1 : Aside0 (∀ W, Calls Tryd.prog 13 #[.string (s.extract 1 s.size)] W fun e w' => ∃ g, e = .returned (.tuple #[.pointer (some ⟨g, 0, none⟩), .string s1]) ∧ Aside0 (FRel w' (some g) (some a)) ∧ Aside0 (Below W.heap.size W w'))) (c2 : Aside0 (∀ W, Calls Tryd.prog 13 #[.string s1] W fun e w' => ∃ g, e = .returned (.tuple #[.pointer (some ⟨g, 0, none⟩), .string s2]) ∧ Aside0 (FRel w' (some g) (some b)) ∧ Aside0 (Below W.heap.size W w'))) (P41 : Aside0 (strings_CutPrefix.f s2 ⟨#[41]⟩ = some (r3, true))) (f : FT) (c4 : Aside0 (∀ W g1 g2, FRel W (some g1) (some a) → FRel W (some g2) (some b) → Calls Tryd.prog 24 #[.pointer (some ⟨g1, 0, none⟩), .pointer (some ⟨g2, 0, none⟩)] W fun e w' => ∃ g, e = .returned (.pointer (some ⟨g, 0, none⟩)) ∧ Aside0 (FRel w' (some g) (some f)) ∧ Aside0 (Below W.heap.size W w'))) : Calls Tryd.prog 13 #[.string s] w (RPost w (some f) r3) := by
      have P46 := Aside0.mk (show strings_HasPrefix.f s ⟨#[46]⟩ = some false by rw [fpre_has, h46])
      have P40 := Aside0.mk (show strings_HasPrefix.f s ⟨#[40]⟩ = some true by rw [fpre_has, hX])
      have hs : 1 ≤ s.size := by
        unfold fpre at hX; simp at hX; omega
      have hs1 : (1 ≤ (s.size : Int)) = True := eq_true (by omega)
      have hs2 : decide (1 ≤ (s.size : Int)) = true := decide_eq_true (by omega)
      have hs3 : (1 ≤ s.size) = True := eq_true hs
      clear h46 hX
      go_enter Tryd.func13, Tryd.ntmps13
      go_wp2_with (first | (go_at_call 21; (with_reducible refine (strings_HasPrefix.calls s ⟨#[46]⟩ false _ P46.out).mono ?_); rintro e w46 ⟨rfl, ⟨nd46, rfl⟩⟩) | (go_at_call 21; (with_reducible refine (strings_HasPrefix.calls s ⟨#[40]⟩ true _ P40.out).mono ?_); rintro e w40 ⟨rfl, ⟨nd40, rfl⟩⟩) | (go_at_call 13; (with_reducible refine (c1.out _).mono ?_); rintro e w1 ⟨g1, rfl, hf1, hb1⟩) | (go_at_call 13; (with_reducible refine (c2.out _).mono ?_); rintro e w2 ⟨g2, rfl, hf2, hb2⟩) | (go_at_call 23; (with_reducible refine (strings_CutPrefix.calls s2 ⟨#[41]⟩ r3 true _ P41.out).mono ?_); rintro e w3 ⟨rfl, ⟨nd41, rfl⟩⟩) | (go_at_call 24; (with_reducible refine (c4.out _ g1 g2 (FRel.below (pw_below_drewN (Below.refl _ _) _) (FRel.below hb2.out hf1.out)) (FRel.below (pw_below_drewN (Below.refl _ _) _) hf2.out)).mono ?_); rintro e w4 ⟨g4, rfl, hf4, hb4⟩))
      go_ret2
      exact ⟨some g4, rfl, hf4.out, below_step (pw_below_drewN (below_step (below_step (pw_below_drewN (Below.refl _ _) _) hb1.out) hb2.out) _) hb4.out⟩
theorem read_calls (k : Nat) : ∀ (n : Nat) (s : ByteArray) (w : World) (z : Option FT) (rest : ByteArray), readF k n s = some (z, rest) → Calls Tryd.prog 13 #[.string s] w (RPost w z rest) := by
  intro n
  induction n with
  | zero => intro s w z rest h; cases h
  | succ n ih =>
    intro s w z rest h
    simp only [readF] at h
    by_cases h46 : fpre s 46 = true
    · rw [if_pos h46] at h
      obtain ⟨rfl, rfl⟩ := Prod.mk.inj (Option.some.inj h)
      exact read_spark s w h46
    · rw [if_neg h46] at h
      replace h46 := Bool.eq_false_iff.mpr h46
      by_cases h40 : fpre s 40 = true
      · rw [if_pos h40] at h
        obtain ⟨⟨t1, s1⟩, e1, h⟩ := Option.bind_eq_some_iff.mp h
        cases t1 with
        | none =>
          obtain ⟨rfl, rfl⟩ := Prod.mk.inj (Option.some.inj h)
          exact read_one s w h46 h40 s1 ⟨fun W => rpost_none (ih _ W _ _ e1)⟩
        | some a =>
          simp only at h
          obtain ⟨⟨t2, s2⟩, e2, h⟩ := Option.bind_eq_some_iff.mp h
          simp only at h
          obtain ⟨z3, e3, h⟩ := Option.bind_eq_some_iff.mp h
          have hc := fpre_cut s2 41
          cases t2 with
          | none =>
            obtain rfl : none = z3 := by simpa [FT.join] using e3
            obtain ⟨rfl, rfl⟩ := Prod.mk.inj (Option.some.inj h)
            split at hc
            · exact read_two s w h46 h40 s1 s2 _ _ a ⟨fun W => rpost_some (ih _ W _ _ e1)⟩ ⟨fun W => rpost_none (ih _ W _ _ e2)⟩ ⟨hc⟩
            · exact read_two s w h46 h40 s1 s2 _ _ a ⟨fun W => rpost_some (ih _ W _ _ e1)⟩ ⟨fun W => rpost_none (ih _ W _ _ e2)⟩ ⟨hc⟩
          | some b =>
            have J : ∀ W g1 g2, FRel W (some g1) (some a) → FRel W (some g2) (some b) → Calls Tryd.prog 24 #[.pointer (some ⟨g1, 0, none⟩), .pointer (some ⟨g2, 0, none⟩)] W (FPost W z3) := fun W g1 g2 hA hB => join_calls k W (some g1) (some g2) (some a) (some b) z3 hA hB e3
            cases z3 with
            | none =>
              obtain ⟨rfl, rfl⟩ := Prod.mk.inj (Option.some.inj h)
              split at hc
              · exact read_three s w h46 h40 s1 s2 _ _ a b ⟨fun W => rpost_some (ih _ W _ _ e1)⟩ ⟨fun W => rpost_some (ih _ W _ _ e2)⟩ ⟨hc⟩ ⟨fun W g1 g2 hA hB => fpost_none (J W g1 g2 hA hB)⟩
              · exact read_three s w h46 h40 s1 s2 _ _ a b ⟨fun W => rpost_some (ih _ W _ _ e1)⟩ ⟨fun W => rpost_some (ih _ W _ _ e2)⟩ ⟨hc⟩ ⟨fun W g1 g2 hA hB => fpost_none (J W g1 g2 hA hB)⟩
            | some f =>
              simp only at h
              by_cases h41 : fpre s2 41 = true
              · rw [if_pos h41] at h hc
                obtain ⟨rfl, rfl⟩ := Prod.mk.inj (Option.some.inj h)
                exact read_five s w h46 h40 s1 s2 _ a b ⟨fun W => rpost_some (ih _ W _ _ e1)⟩ ⟨fun W => rpost_some (ih _ W _ _ e2)⟩ ⟨hc⟩ f ⟨fun W g1 g2 hA hB => fpost_some (J W g1 g2 hA hB)⟩
              · rw [if_neg h41] at h hc
                obtain ⟨rfl, rfl⟩ := Prod.mk.inj (Option.some.inj h)
                exact read_four s w h46 h40 s1 s2 _ a b ⟨fun W => rpost_some (ih _ W _ _ e1)⟩ ⟨fun W => rpost_some (ih _ W _ _ e2)⟩ ⟨hc⟩ f ⟨fun W g1 g2 hA hB => fpost_some (J W g1 g2 hA hB)⟩
      · rw [if_neg h40] at h
        obtain ⟨rfl, rfl⟩ := Prod.mk.inj (Option.some.inj h)
        exact read_not s w h46 (Bool.eq_false_iff.mpr h40)
end Go.Proofs.YthloakjlpblakaaDoor.PB
