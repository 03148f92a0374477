/- LeftMinutes: the program's list is the reference's, and it holds nothing of its argument. Conditions: none. -/
import Derived.Test.YtogpednapceljaaBase
import Derived.Test.YtogpednapceljaaFrac
import Derived.Test.YtogpednapceljaaListsB
import Derived.Test.YtogpednapceljaaListsJ
set_option linter.unusedVariables false
set_option linter.unusedSimpArgs false
namespace Go.Proofs.Ytogpednapceljaa.Pure
open Go.RowKit Go.Proofs.Ytogpednapceljaa.PA Go.Proofs.Ytogpednapceljaa.PL Go.Proofs.YtogpednapceljaaW.PrintWords Go.Proofs.YtogpednapceljaaW.PrintLast Go.Proofs.YtogpednapceljaaW.PrintMore
/-- The minutes that a thing has left. -/
def left (x : S23) : S79 := ⟨(cut x.f2 4).1, (cut x.f2 4).2⟩
theorem left_go {xs : List S23} (hg : good xs = true) : ∀ (d k i : Nat) (acc : List S79), xs.length = i + d → BIG + d < k → acc.length = i →
    spec_LeftMinutes.l0 k xs acc i = some (acc ++ (xs.drop i).map left, true) ∧ impl_LeftMinutes.l0 k acc xs (xs.length : Int) i = some (acc ++ (xs.drop i).map left, true) := by
  have hl := good_len hg
  intro d
  induction d with
  | zero =>
    intro k i acc h1 hk ha
    obtain ⟨k, rfl⟩ : ∃ m, k = m + 1 := ⟨k - 1, by omega⟩
    simp only [spec_LeftMinutes.l0, impl_LeftMinutes.l0]
    rw [if_neg (by omega), if_neg (by omega), List.drop_eq_nil_of_le (by omega), List.map_nil, List.append_nil]
    exact ⟨rfl, rfl⟩
  | succ d ih =>
    intro k i acc h1 hk ha
    obtain ⟨k, rfl⟩ : ∃ m, k = m + 1 := ⟨k - 1, by omega⟩
    obtain ⟨x, hxx⟩ := at_lt (xs := xs) (i := i) (by omega)
    have hd : xs.drop i = x :: xs.drop (i + 1) := by
      rw [List.drop_eq_getElem_cons (by omega)]
      rw [List.getElem?_eq_getElem (by omega)] at hxx
      cases hxx; rfl
    obtain ⟨g1, g2, _, _⟩ := good_at hg hxx
    have hi : (i : Int) < (xs.length : Int) := by omega
    have h0 : (0 : Int) ≤ (i : Int) := by omega
    have h3 : acc.length < 8796093022208 := by omega
    have e1 : spec_l2Cut.f k x.f2 4 = some (cut x.f2 4) := l2Cut_ok (by omega) (by omega) (by omega) (by omega)
    have e2 : impl_reduced.f k x.f2 4 = some (cut x.f2 4) := reduced_ok (by omega) (by omega) (by omega) (by omega)
    simp only [spec_LeftMinutes.l0, impl_LeftMinutes.l0, hi, h0, h3, if_true, rd_at hxx, e1, e2, Option.bind_some, wrS i (by omega)]
    have := ih k (i + 1) (acc ++ [left x]) (by omega) (by omega) (by simp; omega)
    rw [List.append_assoc] at this
    rw [hd, List.map_cons]
    exact this
theorem leftMinutes_ok {ys : List S23} (hm : ys.length ≤ 1048576) : ∃ r : List S79 × Bool, r.1.length ≤ ys.length ∧ ∀ k, BIG + ys.length + 1000000 < k → spec_LeftMinutes.f k ys = some r ∧ impl_LeftMinutes.f k ys = some r := by
  by_cases hg : good ys = true
  · have hl := good_len hg
    refine ⟨(ys.map left, true), by simp, ?_⟩
    intro k hk
    have hb : 20 ≤ BIG := by decide
    unfold spec_LeftMinutes.f impl_LeftMinutes.f
    rw [specGood_ok (by omega), implGood_ok (by omega) (by omega)]
    simp only [Option.bind_some, hg, if_true]
    exact left_go hg ys.length k 0 [] (by omega) (by omega) rfl
  · refine ⟨([], false), by simp, ?_⟩
    intro k hk
    have hb : 20 ≤ BIG := by decide
    unfold spec_LeftMinutes.f impl_LeftMinutes.f
    rw [specGood_ok (by omega), implGood_ok (by omega) (by omega)]
    simp only [Option.bind_some, hg, if_false]
    exact ⟨rfl, rfl⟩
theorem FnExactLeftMinutes : laws_FnExactLeftMinutes.Pure := by
  intro xs _ hxs
  unfold laws_FnExactLeftMinutes.f
  by_cases hx : xs.length ≤ 1048576
  · obtain ⟨n, hn⟩ := szThingS_ex xs
    have hm : (xs.map convThing).length ≤ 1048576 := by simpa using hx
    have ht : ∀ k, xs.length < k → laws_toThingS.f k xs = some (xs.map convThing) := fun k hk => toThingS_ok hx hk
    have hll : (xs.map convThing).length = xs.length := by simp
    generalize xs.map convThing = ys at *
    obtain ⟨r, hr, hf⟩ := leftMinutes_ok hm
    have hs : ∀ k, BIG + ys.length + 1000000 < k → spec_LeftMinutes.f k ys = some r := fun k hk => (hf k hk).1
    have hi : ∀ k, BIG + ys.length + 1000000 < k → impl_LeftMinutes.f k ys = some r := fun k hk => (hf k hk).2
    generalize BIG = B at *
    obtain ⟨K, hK⟩ : ∃ K, K = B + ys.length + 3000000 := ⟨_, rfl⟩
    refine ⟨K + 1 + 1 + 1, ?_⟩
    rw [hn, Option.bind_some]
    split
    · rfl
    · rw [ht _ (by omega), Option.bind_some, hs _ (by omega), Option.bind_some, Option.bind_some, hi _ (by omega), Option.bind_some, eqIntA2S_self (by omega) (by omega), Option.bind_some, if_pos rfl]
      simp only [laws_FnExactLeftMinutes.j0, bne_self_eq_false, Bool.false_eq_true, if_false]
      rw [ht _ (by omega), Option.bind_some, eqThingS_self (by omega) (by omega), Option.bind_some, if_pos rfl, markThingS_ok (by omega) (by omega), Option.bind_some, if_neg (by simp only; omega),
        eqIntA2S_self (by omega) (by omega), Option.bind_some, if_pos rfl]
      simp only [laws_FnExactLeftMinutes.j1, Bool.false_eq_true, if_false]
      rw [markIntA2S_ok (by omega) (by omega), Option.bind_some]
      simp only
      rw [heldIntA2S_ok (by omega) (by omega), Option.bind_some, if_neg (by omega), if_pos rfl, ht _ (by omega), Option.bind_some, hi _ (by omega), Option.bind_some]
      rw [eqIntA2S_self (by omega) (by omega), Option.bind_some, if_pos rfl]
      simp only [laws_FnExactLeftMinutes.j2, bne_self_eq_false, Bool.false_eq_true, if_false]
      rw [heldIntA2S_ok (by omega) (by omega), Option.bind_some, if_neg (by omega), if_pos rfl]
  · refine ⟨1, ?_⟩
    rw [szThingS_far (by omega) hxs]
    rfl
end Go.Proofs.Ytogpednapceljaa.Pure
