/- GraftFuse: the program's answer is the reference's. Conditions: none. -/
import Derived.Test.YthloakjlpblakaaDoorFP
import Derived.Test.YthloakjlpblakaaDoorPAx4
import Derived.Test.YthloakjlpblakaaDoorRepL
set_option linter.unusedVariables false
set_option linter.unusedSimpArgs false
namespace Go.Proofs.YthloakjlpblakaaDoor.Pure
open Go.RowKit Go.Proofs.YthloakjlpblakaaDoor.PA Go.Proofs.YthloakjlpblakaaDoor.PB Go.Proofs.YthloakjlpblakaaDoor.RepL Go.Proofs.YthloakjlpblakaaDoorW.PrintWords Go.Proofs.YthloakjlpblakaaDoorW.PrintLast Go.Proofs.YthloakjlpblakaaDoorW.PrintMore

theorem le_mono {α : Type} {f : Nat → Option α} (h : ∀ k, LeO (f k) (f (k + 1))) {k k' : Nat} (hk : k ≤ k') : LeO (f k) (f k') := by
  obtain ⟨d, rfl⟩ := Nat.exists_eq_add_of_le hk
  clear hk
  induction d with
  | zero => exact LeO.refl _
  | succ d ih => exact LeO.trans ih (h (k + d))
theorem rep_BL (l t : List UInt8) : rep (BL l) (BL t) = BL (flat 46 t l) := by
  unfold rep
  have e1 : (BL l).data.toList = l := by simp [BL]
  have e2 : (BL t).data.toList = t := by simp [BL]
  have e3 : (⟨#[46]⟩ : ByteArray).data.toList = [46] := rfl
  rw [e1, e2, e3, replaceAll_one]
  rfl
/-- Both tests of a text: one answer, and a fuse's text if it is yes. -/
theorem is_both {B k : Nat} (hB : B = BIG) (l : List UInt8) (hk : B + 1000 ≤ k) : ∃ b, isF k (BL l) = some b ∧ spec_IsFuse.f k (BL l) = some b ∧ (b = true → l.length ≤ 25) := by
  unfold isF spec_IsFuse.f
  rcases parse_all (k := k) hB (BL l) hk with ⟨a, e1, e2, e3, e4⟩ | ⟨e1, q1, q2, q3, q4, e4⟩
  · refine ⟨true, by rw [e1]; rfl, by rw [e4]; rfl, fun _ => ?_⟩
    have la := txt_len a
    have ra := e2.ropes
    rw [BL_inj e3]
    omega
  · exact ⟨false, by rw [e1]; rfl, by rw [e4]; rfl, fun h => by cases h⟩
theorem flat_cons (c b : UInt8) (t l : List UInt8) : flat c t (b :: l) = (if b = c then t else [b]) ++ flat c t l := by unfold flat; rw [List.flatMap_cons]
theorem flat_app (c : UInt8) (t x y : List UInt8) : flat c t (x ++ y) = flat c t x ++ flat c t y := by unfold flat; rw [List.flatMap_append]
theorem wsucc (x : List UInt8) (c : UInt8) (h : x.length ≤ 1000) : wrap64 ((x.length : Int) + 1) = ((x ++ [c]).length : Int) := by
  rw [List.length_append, List.length_cons, List.length_nil, w64 (by omega) (by omega)]; push_cast; rfl
/-- The reference's loop. -/
theorem graft_loop {B : Nat} (hB : B = BIG) (t l : List UInt8) (b : Bool) (ht : t.length ≤ 25) (hl : l.length ≤ 25) (hb : ∀ k, B + 1000 ≤ k → spec_IsFuse.f k (BL (flat 46 t l)) = some b) (hb2 : b = true → (flat 46 t l).length ≤ 25) :
    ∀ (y x : List UInt8) (k : Nat), l = x ++ y → (flat 46 t x).length ≤ 25 → B + 1001 + y.length ≤ k →
      spec_GraftFuse.l0 k (BL l) (BL t) (BL (flat 46 t x)) (x.length : Int) = some (if b = true then (BL (flat 46 t l), true) else ((⟨#[]⟩ : ByteArray), false))
  | [], x, k, e, hx, hk => by
    obtain ⟨k, rfl⟩ : ∃ j, k = j + 1 := ⟨k - 1, by omega⟩
    rw [List.append_nil] at e
    subst e
    rw [spec_GraftFuse.l0, if_neg (by rw [BL_size]; omega), hb k (by simp only [List.length_nil] at hk; omega), Option.bind_some]
    cases b <;> rfl
  | c :: y, x, k, e, hx, hk => by
    obtain ⟨k, rfl⟩ : ∃ j, k = j + 1 := ⟨k - 1, by omega⟩
    have hlen : l.length = x.length + (y.length + 1) := by rw [e, List.length_append, List.length_cons]
    have hg : l[x.length]? = some c := by rw [e, List.getElem?_append_right (Nat.le_refl _), Nat.sub_self]; rfl
    have e' : l = (x ++ [c]) ++ y := by rw [e]; simp
    have hxc : (x ++ [c]).length = x.length + 1 := by simp
    have hall : (flat 46 t (x ++ [c])).length ≤ (flat 46 t l).length := by
      rw [e', flat_app 46 t (x ++ [c]) y, List.length_append]; omega
    have hfl : flat 46 t (x ++ [c]) = flat 46 t x ++ (if c = 46 then t else [c]) := by
      rw [flat_app, flat_cons]; simp [flat]
    have ih := graft_loop hB t l b ht hl hb hb2 y (x ++ [c]) k e'
    have hk' : B + 1001 + y.length ≤ k := by simp only [List.length_cons] at hk; omega
    have hno : ¬ (flat 46 t (x ++ [c])).length ≤ 25 → b = false := fun h => by
      cases b with
      | false => rfl
      | true => exact absurd (hb2 rfl) (by omega)
    rw [spec_GraftFuse.l0, if_pos (by rw [BL_size]; omega), if_pos (by omega), BL_bt l x.length c hg, wsucc x c (by omega)]
    by_cases h46 : c = 46
    · subst h46
      rw [if_pos rfl] at hfl
      have e46 : ((46 : UInt8).toNat : Int) = 46 := rfl
      rw [if_pos e46, if_pos (by rw [BL_size, BL_size]; omega), BL_app, ← hfl]
      by_cases h25 : (flat 46 t (x ++ [46])).length ≤ 25
      · rw [if_neg (by rw [BL_size]; omega), ih h25 hk']
      · rw [if_pos (by rw [BL_size]; omega), hno h25]
        rfl
    · have hx2 : (BL l).extract ((x.length : Int)).toNat (((x ++ [c]).length : Int)).toNat = BL [c] := by
        rw [BL_extract]
        congr 1
        rw [Int.toNat_natCast, Int.toNat_natCast, hxc, e, List.drop_append_of_le_length (Nat.le_refl _), List.drop_length, List.nil_append, Nat.add_sub_cancel_left]
        rfl
      rw [if_neg h46] at hfl
      have n46 : ¬ (c.toNat : Int) = 46 := toNat_ne h46
      rw [if_neg n46, if_pos (by rw [hxc]; omega), if_pos (by rw [BL_size, hxc]; omega), hx2, if_pos (by rw [BL_size, BL_size]; simp only [List.length_cons, List.length_nil]; omega), BL_app, ← hfl]
      by_cases h25 : (flat 46 t (x ++ [c])).length ≤ 25
      · rw [if_neg (by rw [BL_size]; omega), ih h25 hk']
      · rw [if_pos (by rw [BL_size]; omega), hno h25]
        rfl
theorem FnExactGraftFuse : laws_FnExactGraftFuse.Pure := by
  intro s t _ _
  obtain ⟨B, hB⟩ : ∃ B, B = BIG := ⟨_, rfl⟩
  refine ⟨B + 4000, ?_⟩
  obtain ⟨l, rfl⟩ := BL_of s
  obtain ⟨u, rfl⟩ := BL_of t
  obtain ⟨b1, p1, q1, r1⟩ := is_both (k := B + 4000) hB l (by omega)
  obtain ⟨b2, p2, q2, r2⟩ := is_both (k := B + 4000) hB u (by omega)
  obtain ⟨b3, p3, q3, r3⟩ := is_both (k := B + 4000) hB (flat 46 u l) (by omega)
  unfold laws_FnExactGraftFuse.f
  split
  · rfl
  · split
    · rfl
    · have key : ∃ r, spec_GraftFuse.f (B + 4000) (BL l) (BL u) = some r ∧ impl_GraftFuse.f (B + 4000) (BL l) (BL u) = some r := by
        unfold spec_GraftFuse.f impl_GraftFuse.f
        unfold graftF
        rw [q1, p1, Option.bind_some, Option.bind_some]
        cases b1 with
        | false => exact ⟨_, by rw [if_neg Bool.false_ne_true, spec_GraftFuse.j0, if_pos rfl], rfl⟩
        | true =>
          rw [if_pos rfl, if_pos rfl, q2, p2, Option.bind_some, Option.bind_some]
          cases b2 with
          | false => exact ⟨_, by rw [spec_GraftFuse.j0]; exact if_pos (by rfl), rfl⟩
          | true =>
            rw [if_pos rfl, rep_BL, p3, Option.bind_some]
            have hg := graft_loop hB u l b3 (r2 rfl) (r1 rfl) (fun k hk => by
              obtain ⟨b4, p4, q4, _⟩ := is_both (k := k) hB (flat 46 u l) hk
              rw [q4]
              congr 1
              by_cases hkk : k ≤ B + 4000
              · have := le_mono (fun j => spec_IsFuse.mono (BL (flat 46 u l)) j) hkk _ q4
                rw [q3] at this
                exact (Option.some.inj this).symm
              · have := le_mono (fun j => spec_IsFuse.mono (BL (flat 46 u l)) j) (show B + 4000 ≤ k by omega) _ q3
                rw [q4] at this
                exact Option.some.inj this) r3 l [] (B + 3999) rfl (by simp [flat]) (by have := r1 rfl; omega)
            refine ⟨_, ?_, rfl⟩
            rw [spec_GraftFuse.j0, if_neg (by decide)]
            exact hg
      obtain ⟨r, e1, e2⟩ := key
      rw [e1, e2, Option.bind_some, Option.bind_some, if_pos rfl, if_neg (by simp)]
end Go.Proofs.YthloakjlpblakaaDoor.Pure
