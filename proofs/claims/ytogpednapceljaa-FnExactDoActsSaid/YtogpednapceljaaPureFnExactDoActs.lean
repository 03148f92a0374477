/- DoActs: the program's answer is the reference's, and it holds nothing of its arguments. Conditions: none. -/
import Derived.Test.YtogpednapceljaaActs
import Derived.Test.YtogpednapceljaaListsB
import Derived.Test.YtogpednapceljaaListsI
import Derived.Test.YtogpednapceljaaPAx7
set_option linter.unusedVariables false
set_option linter.unusedSimpArgs false
namespace Go.Proofs.Ytogpednapceljaa.Pure
open Go.RowKit Go.Proofs.Ytogpednapceljaa.PA Go.Proofs.Ytogpednapceljaa.PL Go.Proofs.YtogpednapceljaaW.PrintWords Go.Proofs.YtogpednapceljaaW.PrintLast Go.Proofs.YtogpednapceljaaW.PrintMore
theorem specActs_step {xs : List S23} (h : good xs = true) {l : List Int} {k i : Nat} {a : Int} (ha : l[i]? = some a) (hi : i ≤ 4611686018427387904) :
    spec_l8Acts.l0 (k + 1) l xs (i : Int) = match acted xs a with | some ys => spec_l8Acts.l0 k l ys ((i + 1 : Nat) : Int) | none => some (xs, (i : Int)) := by
  have hi1 := lt_of ha
  simp only [spec_l8Acts.l0]
  rw [if_pos (by omega), if_pos (by omega), rdI ha, specActed_ok h, Option.bind_some, wrS i hi]
  cases acted xs a <;> simp
theorem acts_go {l : List Int} (hl : l.length ≤ 8) : ∀ (d k k' i : Nat) (xs : List S23), good xs = true → l.length = i + d → d < k → d < k' →
    ∃ r : List S23 × Int, r.1.length = xs.length ∧ spec_l8Acts.l0 k l xs i = some r ∧ impl_doActs.l0 k' xs l l (l.length : Int) i = some (r.2, r.1) := by
  intro d
  induction d with
  | zero =>
    intro k k' i xs h h1 h2 h3
    obtain ⟨k, rfl⟩ : ∃ m, k = m + 1 := ⟨k - 1, by omega⟩
    obtain ⟨k', rfl⟩ : ∃ m, k' = m + 1 := ⟨k' - 1, by omega⟩
    refine ⟨(xs, (l.length : Int)), rfl, ?_, implActs_end (by omega)⟩
    simp only [spec_l8Acts.l0]
    rw [if_neg (by omega)]
  | succ d ih =>
    intro k k' i xs h h1 h2 h3
    obtain ⟨k, rfl⟩ : ∃ m, k = m + 1 := ⟨k - 1, by omega⟩
    obtain ⟨k', rfl⟩ : ∃ m, k' = m + 1 := ⟨k' - 1, by omega⟩
    obtain ⟨a, ha⟩ := at_lt (xs := l) (i := i) (by omega)
    rw [specActs_step h ha (by omega), implActs_step h ha (by omega)]
    cases e : acted xs a with
    | none => exact ⟨(xs, (i : Int)), rfl, rfl, rfl⟩
    | some ys =>
      obtain ⟨g1, g2⟩ := acted_good h e
      obtain ⟨r, r1, r2, r3⟩ := ih k k' (i + 1) ys g1 (by omega) (by omega) (by omega)
      exact ⟨r, by rw [r1, g2], r2, r3⟩
theorem doActs_ok {k : Nat} (hk : 30 ≤ k) {xs : List S23} (hx : xs.length ≤ 1048576) (hk2 : xs.length + 1 < k) (l : List Int) : ∃ r : List S23 × Int × Bool, r.1.length ≤ xs.length ∧ spec_DoActs.f k xs l = some r ∧ impl_DoActs.f k xs l = some r := by
  unfold spec_DoActs.f impl_DoActs.f
  rw [specGood_ok (by omega), implGood_ok (by omega) (by omega), Option.bind_some, Option.bind_some]
  obtain ⟨k, rfl⟩ : ∃ m, k = m + 1 := ⟨k - 1, by omega⟩
  by_cases h : good xs = true
  · rw [if_pos h, if_pos h]
    by_cases h8 : (l.length : Int) > 8
    · rw [if_pos h8, decide_eq_true h8]
      simp only [impl_DoActs.j0, if_true]
      exact ⟨([], 0, false), Nat.zero_le _, rfl, rfl⟩
    · rw [if_neg h8, decide_eq_false h8]
      simp only [impl_DoActs.j0, Bool.false_eq_true, if_false]
      unfold impl_Thing_92.f spec_l8Acts.f impl_doActs.f
      simp only [Option.bind_some, List.length_nil, List.nil_append]
      rw [if_pos (by omega), if_pos (by omega)]
      simp only [Option.bind_some]
      obtain ⟨r, r1, r2, r3⟩ := acts_go (l := l) (by omega) l.length (k + 1) k 0 xs h (by omega) (by omega) (by omega)
      rw [show ((0 : Nat) : Int) = 0 from rfl] at r2 r3
      rw [r2, r3]
      exact ⟨(r.1, r.2, true), by simp only; omega, rfl, rfl⟩
  · rw [if_neg h, if_neg h]
    simp only [impl_DoActs.j0, if_true]
    exact ⟨([], 0, false), Nat.zero_le _, rfl, rfl⟩
theorem toIntS_ok {k : Nat} {l : List Int} (hx : l.length ≤ 1048576) (hk : l.length < k) : laws_toIntS.f k l = some l := by
  unfold laws_toIntS.f
  rw [if_pos (by omega), if_pos (by simp; omega)]
  have h := conv_go laws_toIntS.l0 (fun x => x) ?_ ?_ l (by omega) l.length k 0 (List.replicate ((l.length : Int) : Int).toNat 0) (by omega) (by simp) hk (by intro j hj; omega)
  · simpa using h
  · intro k xs ys i x hx hi
    have h1 := lt_of hx
    simp only [laws_toIntS.l0]
    rw [if_pos (by omega), if_pos (by omega), if_pos (by omega), rdI hx]
    simp
  · intro k xs ys i hi
    simp only [laws_toIntS.l0]
    rw [if_neg (by omega)]
theorem markInt_go (n : Nat) : ∀ (d k i : Nat) (l : List Int) (c : Int), l.length = n → n ≤ 2097152 → i + d = n → d < k → 0 ≤ c → c ≤ 1099511627776 + i → ∃ r : Int × List Int, laws_markIntS.l0 k l c i = some r ∧ 0 ≤ r.1 := by
  intro d
  induction d with
  | zero =>
    intro k i l c h1 h2 h3 h4 h5 h6
    obtain ⟨k, rfl⟩ : ∃ m, k = m + 1 := ⟨k - 1, by omega⟩
    simp only [laws_markIntS.l0]
    rw [if_neg (by omega)]
    exact ⟨_, rfl, h5⟩
  | succ d ih =>
    intro k i l c h1 h2 h3 h4 h5 h6
    obtain ⟨k, rfl⟩ : ∃ m, k = m + 1 := ⟨k - 1, by omega⟩
    simp only [laws_markIntS.l0]
    rw [if_pos (by omega), if_pos (by omega), wrS i (by omega), wr (n := c + 1) (by omega) (by omega)]
    exact ih k (i + 1) _ (c + 1) (by rw [List.length_set]; exact h1) h2 (by omega) (by omega) (by omega) (by push_cast; omega)
theorem markInt_ex {k : Nat} {l : List Int} {c : Int} (hl : l.length ≤ 1048576) (hk : l.length < k) (h0 : 0 ≤ c) (h1 : c ≤ 1099511627776) : ∃ r : Int × List Int, laws_markIntS.f k l c = some r ∧ 0 ≤ r.1 := by
  obtain ⟨r, e, h⟩ := markInt_go l.length l.length k 0 l c rfl (by omega) (by omega) hk h0 (by omega)
  exact ⟨r, e, h⟩
theorem FnExactDoActs : laws_FnExactDoActs.Pure := by
  intro xs l _ hxs _ hls
  unfold laws_FnExactDoActs.f
  by_cases hl : (l.length : Int) > 1048576
  · exact ⟨1, by rw [if_pos hl]⟩
  · have hl2 : l.length ≤ 1048576 := by omega
    by_cases hx : xs.length ≤ 1048576
    · refine ⟨2097152, ?_⟩
      rw [if_neg hl]
      obtain ⟨n, hn⟩ := szThingS_ex xs
      rw [hn, Option.bind_some]
      split
      · rfl
      · have hm : (xs.map convThing).length ≤ 1048576 := by simpa using hx
        have ht : ∀ k, xs.length < k → laws_toThingS.f k xs = some (xs.map convThing) := fun k hk => toThingS_ok hx hk
        have hi : ∀ k, 1048580 ≤ k → laws_toIntS.f k l = some l := fun k hk => toIntS_ok hl2 (by omega)
        rw [ht _ (by omega), Option.bind_some, hi _ (by omega), Option.bind_some]
        generalize xs.map convThing = ys at *
        obtain ⟨r, p3, p1, p2⟩ := doActs_ok (k := 2097152) (by omega) hm (by omega) l
        obtain ⟨r', q3, q1, q2⟩ := doActs_ok (k := 2097150) (by omega) hm (by omega) l
        have er : r' = r := by
          have m1 := at_rounds (impl_DoActs.mono ys l) (by omega : 2097150 ≤ 2097152) q2
          rw [p2] at m1; exact (Option.some.inj m1).symm
        subst er
        clear q1 q3
        obtain ⟨r1, r2, r3⟩ := r'
        simp only at p3
        rw [p1, Option.bind_some, Option.bind_some, Option.bind_some, p2, Option.bind_some]
        simp only
        rw [eqThingS_self (by omega) (by omega), Option.bind_some, if_pos rfl]
        simp only [if_true, laws_FnExactDoActs.j0, bne_self_eq_false, Bool.false_eq_true, if_false]
        obtain ⟨m, hm1, hm2⟩ := markInt_ex (k := 2097151) (l := l) (c := ((1 + 4 * ys.length : Nat) : Int)) hl2 (by omega) (by omega) (by omega)
        rw [ht _ (by omega), Option.bind_some, eqThingS_self (by omega) (by omega), Option.bind_some, if_pos rfl, hi _ (by omega), Option.bind_some, eqIntS_self (by omega) (by omega), Option.bind_some, if_pos rfl, markThingS_ok (by omega) (by omega), Option.bind_some]
        simp only
        rw [hm1, Option.bind_some, if_neg (by omega), eqThingS_self (by omega) (by omega), Option.bind_some, if_pos rfl]
        simp only [if_true, laws_FnExactDoActs.j1, bne_self_eq_false, Bool.false_eq_true, if_false]
        rw [markThingS_ok (by omega) (by omega), Option.bind_some]
        simp only
        rw [heldThingS_ok (by omega) (by omega), Option.bind_some, if_neg (by omega), if_pos rfl, ht _ (by omega), Option.bind_some, hi _ (by omega), Option.bind_some, q2, Option.bind_some]
        simp only
        rw [eqThingS_self (by omega) (by omega), Option.bind_some, if_pos rfl]
        simp only [if_true, laws_FnExactDoActs.j2, bne_self_eq_false, Bool.false_eq_true, if_false]
        rw [heldThingS_ok (by omega) (by omega), Option.bind_some, if_neg (by omega), if_pos rfl]
    · refine ⟨1, ?_⟩
      rw [if_neg hl, szThingS_far (by omega) hxs]
      rfl
end Go.Proofs.Ytogpednapceljaa.Pure
