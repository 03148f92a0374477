import Derived.Test.YtmhnllcdfjggaaaVOutTogetPAx7
import Derived.Test.YtmhnllcdfjggaaaVOutTogetStepA
namespace Go.Proofs.Ytmhnllcdfjggaaa.TT
open Go.RowKit Go.Proofs.YtmhnllcdfjggaaaW.PrintWords Go.Proofs.YtmhnllcdfjggaaaW.PrintLast Go.Proofs.Ytmhnllcdfjggaaa.PA Go.Proofs.Ytmhnllcdfjggaaa.Mp Go.Proofs.Ytmhnllcdfjggaaa.Lv
set_option linter.unusedVariables false
set_option linter.unusedSimpArgs false

/-! ### the reference's sets and steps -/
theorem s_turn_go (k : Nat) (K : Kit4) (hK : K.ok) (p : Sp) (hp : Fits K p) (set : Int) (hs : set ∈ all16) :
 spec_l2Turn.f (k + 4) K.a K.b K.c K.d p.a p.b p.c p.d set = some (turnP K.a p.a (bitP set 1), turnP K.b p.b (bitP set 2), turnP K.c p.c (bitP set 4), turnP K.d p.d (bitP set 8)) := by
 have w1 := wr (K.a - p.a) (by have := hK.1; have := hp.1; omega) (by have := hK.1; have := hp.1; omega)
 have w2 := wr (K.b - p.b) (by have := hK.2.1; have := hp.2.1; omega) (by have := hK.2.1; have := hp.2.1; omega)
 have w3 := wr (K.c - p.c) (by have := hK.2.2.1; have := hp.2.2.1; omega) (by have := hK.2.2.1; have := hp.2.2.1; omega)
 have w4 := wr (K.d - p.d) (by have := hK.2.2.2; have := hp.2.2.2; omega) (by have := hK.2.2.2; have := hp.2.2.2; omega)
 unfold spec_l2Turn.f
 simp only [spec_l2Turn.j0, spec_l2Turn.j1, spec_l2Turn.j2, spec_l2Turn.j3, bit1 set hs, bit2 set hs, bit4 set hs, bit8 set hs, w1, w2, w3, w4, turnP]
 cases bitP set 1 <;> cases bitP set 2 <;> cases bitP set 4 <;> cases bitP set 8 <;> rfl
theorem s_next_go (k : Nat) (a b c d : Int) : spec_l2Next.f (k + 8) a b c d = some (nextP a b c d) := by
 have e0 : spec_l2Next.f (k + 8) a b c d = spec_l2Next.j1 (k + 7 - 1 + 1) (least0 0 a) a b c d := by
  unfold spec_l2Next.f least0
  by_cases h : a > 0
  ·rw [if_pos h, if_pos ⟨h, Or.inl rfl⟩]
   rfl
  ·rw [if_neg h, if_neg (fun h' => h h'.1)]
   rfl
 have e1 : ∀ (k : Nat) (x : Int), spec_l2Next.j1 (k + 2) x a b c d = spec_l2Next.j3 k (least0 x b) a b c d := by
  intro k x
  rw [spec_l2Next.j1]
  unfold least0
  by_cases h : b > 0
  ·rw [if_pos h]
   by_cases hx : x = 0
   ·rw [if_pos hx, if_pos ⟨h, Or.inl hx⟩]
    rfl
   ·rw [if_neg hx]
    by_cases hl : b < x
    ·rw [if_pos ⟨h, Or.inr hl⟩, decide_eq_true hl]
     rfl
    ·rw [if_neg (fun h' => h'.2.elim hx hl), decide_eq_false hl]
     rfl
  ·rw [if_neg h, if_neg (fun h' => h h'.1)]
   rfl
 have e2 : ∀ (k : Nat) (x : Int), spec_l2Next.j3 (k + 2) x a b c d = spec_l2Next.j5 k (least0 x c) a b c d := by
  intro k x
  rw [spec_l2Next.j3]
  unfold least0
  by_cases h : c > 0
  ·rw [if_pos h]
   by_cases hx : x = 0
   ·rw [if_pos hx, if_pos ⟨h, Or.inl hx⟩]
    rfl
   ·rw [if_neg hx]
    by_cases hl : c < x
    ·rw [if_pos ⟨h, Or.inr hl⟩, decide_eq_true hl]
     rfl
    ·rw [if_neg (fun h' => h'.2.elim hx hl), decide_eq_false hl]
     rfl
  ·rw [if_neg h, if_neg (fun h' => h h'.1)]
   rfl
 have e3 : ∀ (k : Nat) (x : Int), spec_l2Next.j5 (k + 3) x a b c d = some (least0 x d) := by
  intro k x
  rw [spec_l2Next.j5]
  unfold least0
  by_cases h : d > 0
  ·rw [if_pos h]
   by_cases hx : x = 0
   ·rw [if_pos hx, if_pos ⟨h, Or.inl hx⟩]
    rfl
   ·rw [if_neg hx]
    by_cases hl : d < x
    ·rw [if_pos ⟨h, Or.inr hl⟩, decide_eq_true hl]
     rfl
    ·rw [if_neg (fun h' => h'.2.elim hx hl), decide_eq_false hl]
     rfl
  ·rw [if_neg h, if_neg (fun h' => h h'.1)]
   rfl
 rw [e0]
 show spec_l2Next.j1 ((k + 5) + 2) _ a b c d = _
 rw [e1]
 show spec_l2Next.j3 ((k + 3) + 2) _ a b c d = _
 rw [e2, e3]
 rfl
theorem s_most_go (x : Int) : spec_l1Most.f x 0 = some (max x 0) := by
 unfold spec_l1Most.f
 split
 ·rw [Int.max_eq_left (by omega)]
 ·rw [Int.max_eq_right (by omega)]
theorem s_pass_go (a b c d t : Int) (h1 : 0 ≤ a ∧ a ≤ 30) (h2 : 0 ≤ b ∧ b ≤ 30) (h3 : 0 ≤ c ∧ c ≤ 30) (h4 : 0 ≤ d ∧ d ≤ 30) (ht : 0 ≤ t ∧ t ≤ 30) : spec_l2Pass.f a b c d t = some (passP t a, passP t b, passP t c, passP t d) := by
 have one : ∀ n : Int, 0 ≤ n ∧ n ≤ 30 → max (wrap64 (n - t)) 0 = passP t n := by
  intro n hn
  rw [wr (n - t) (by omega) (by omega)]
  unfold passP
  omega
 unfold spec_l2Pass.f
 simp only [s_most_go, Option.bind_some]
 rw [one a h1, one b h2, one c h3, one d h4]
theorem s_step_go (k : Nat) (K : Kit4) (hK : K.ok) (p : Sp) (hp : Fits K p) (set : Int) (hs : set ∈ all16) :
 spec_l2Step.f (k + 8) K.a K.b K.c K.d p.a p.b p.c p.d set = some (stepP K.a K.b K.c K.d p set) := by
 obtain ⟨k1, k2, k3, k4⟩ := hK
 have t1 := turnP_in hp.1 (bitP set 1)
 have t2 := turnP_in hp.2.1 (bitP set 2)
 have t3 := turnP_in hp.2.2.1 (bitP set 4)
 have t4 := turnP_in hp.2.2.2 (bitP set 8)
 have n0 := nextP_in (a := turnP K.a p.a (bitP set 1)) (b := turnP K.b p.b (bitP set 2)) (c := turnP K.c p.c (bitP set 4)) (d := turnP K.d p.d (bitP set 8)) (by omega) (by omega) (by omega) (by omega)
 unfold spec_l2Step.f
 rw [s_turn_go (k + 4) K ⟨k1, k2, k3, k4⟩ p hp set hs]
 simp only [Option.bind_some]
 rw [s_next_go]
 simp only [Option.bind_some]
 rw [s_pass_go _ _ _ _ _ ⟨t1.1, by omega⟩ ⟨t2.1, by omega⟩ ⟨t3.1, by omega⟩ ⟨t4.1, by omega⟩ n0]
 rfl
theorem s_all_go (k : Nat) (a b c d : Int) : spec_l2All.f (k + 4) a b c d = some (maskP (decide (0 < a)) (decide (0 < b)) (decide (0 < c)) (decide (0 < d))) := by
 unfold spec_l2All.f
 simp only [spec_l2All.j0, spec_l2All.j1, spec_l2All.j2, spec_l2All.j3, gt_iff_lt]
 by_cases h1 : 0 < a <;> by_cases h2 : 0 < b <;> by_cases h3 : 0 < c <;> by_cases h4 : 0 < d <;> simp only [h1, h2, h3, h4, if_true, if_false, decide_true, decide_false] <;> rfl
theorem s_isSet_go (k : Nat) (K : Kit4) (set : Int) (hs : set ∈ all16) : spec_l2Set.f (k + 4) K.a K.b K.c K.d set = some (setOk K.a K.b K.c K.d set) := by
 obtain ⟨h0, h1⟩ := of_mem16 hs
 unfold spec_l2Set.f spec_l1In.f
 rw [if_pos (by omega), Option.bind_some, decide_eq_true h1, if_pos rfl, s_all_go, Option.bind_some, mask_ok set hs]
 rfl
theorem and_in : ∀ set ∈ all16, ∀ b0 b1 b2 b3 : Bool, Go.bits .and .i64 set (maskP b0 b1 b2 b3) ∈ all16 := by decide
theorem and_ok : ∀ set ∈ all16, ∀ b0 b1 b2 b3 : Bool, ((!bitP set 1 || b0) && (!bitP set 2 || b1) && (!bitP set 4 || b2) && (!bitP set 8 || b3)) = true → Go.bits .and .i64 set (maskP b0 b1 b2 b3) = set := by decide
theorem s_bits_go (k : Nat) (set : Int) : ∃ v, spec_l3Bits.f (k + 6) set = some v := by
 unfold spec_l3Bits.f
 have w1 : wrap64 (0 + 1) = 1 := wr (0 + 1) (by decide) (by decide)
 have w2 : wrap64 (1 + 1) = 2 := wr (1 + 1) (by decide) (by decide)
 have w3 : wrap64 (2 + 1) = 3 := wr (2 + 1) (by decide) (by decide)
 have w4 : wrap64 (3 + 1) = 4 := wr (3 + 1) (by decide) (by decide)
 rw [spec_l3Bits.l0, if_pos (by decide), if_pos (by decide), w1, spec_l3Bits.l0, if_pos (by decide), if_pos (by decide), w2, spec_l3Bits.l0, if_pos (by decide), if_pos (by decide), w3, spec_l3Bits.l0, if_pos (by decide), if_pos (by decide), w4, spec_l3Bits.l0, if_neg (by decide)]
 exact ⟨_, rfl⟩
/-! ### the number of a state -/
theorem mulb {a b A B : Int} (h1 : 0 ≤ a) (h2 : a ≤ A) (h3 : 0 ≤ b) (h4 : b ≤ B) : 0 ≤ a * b ∧ a * b ≤ A * B :=
 ⟨Int.mul_nonneg h1 h3, Int.mul_le_mul h2 h4 h3 (Int.le_trans h1 h2)⟩
def manyP (K : Kit4) : Int := (K.a + 1) * (K.b + 1) * (K.c + 1) * (K.d + 1)
def idP (K : Kit4) (p : Sp) : Int := (((p.t * (K.a + 1) + p.a) * (K.b + 1) + p.b) * (K.c + 1) + p.c) * (K.d + 1) + p.d
theorem many_in (K : Kit4) (hK : K.ok) : 1 ≤ manyP K ∧ manyP K ≤ 923521 := by
 obtain ⟨k1, k2, k3, k4⟩ := hK
 have b1 := mulb (a := K.a + 1) (b := K.b + 1) (A := 31) (B := 31) (by omega) (by omega) (by omega) (by omega)
 have b2 := mulb (a := (K.a + 1) * (K.b + 1)) (b := K.c + 1) (A := 961) (B := 31) b1.1 (by omega) (by omega) (by omega)
 have b3 := mulb (a := (K.a + 1) * (K.b + 1) * (K.c + 1)) (b := K.d + 1) (A := 29791) (B := 31) b2.1 (by omega) (by omega) (by omega)
 have p1 : 0 < (K.a + 1) * (K.b + 1) := Int.mul_pos (by omega) (by omega)
 have p2 : 0 < (K.a + 1) * (K.b + 1) * (K.c + 1) := Int.mul_pos p1 (by omega)
 have p3 : 0 < (K.a + 1) * (K.b + 1) * (K.c + 1) * (K.d + 1) := Int.mul_pos p2 (by omega)
 unfold manyP
 omega
theorem s_many_go (K : Kit4) (hK : K.ok) : spec_l3Many.f K.a K.b K.c K.d = some (manyP K) := by
 obtain ⟨k1, k2, k3, k4⟩ := hK
 have b1 := mulb (a := K.a + 1) (b := K.b + 1) (A := 31) (B := 31) (by omega) (by omega) (by omega) (by omega)
 have b2 := mulb (a := (K.a + 1) * (K.b + 1)) (b := K.c + 1) (A := 961) (B := 31) b1.1 (by omega) (by omega) (by omega)
 have b3 := mulb (a := (K.a + 1) * (K.b + 1) * (K.c + 1)) (b := K.d + 1) (A := 29791) (B := 31) b2.1 (by omega) (by omega) (by omega)
 unfold spec_l3Many.f manyP
 rw [wr (K.a + 1) (by omega) (by omega), wr (K.b + 1) (by omega) (by omega), wr (K.c + 1) (by omega) (by omega), wr (K.d + 1) (by omega) (by omega), Int.one_mul, wr (K.a + 1) (by omega) (by omega), wr ((K.a + 1) * (K.b + 1)) (by omega) (by omega), wr ((K.a + 1) * (K.b + 1) * (K.c + 1)) (by omega) (by omega), wr ((K.a + 1) * (K.b + 1) * (K.c + 1) * (K.d + 1)) (by omega) (by omega)]
theorem rad_lt {x n s B : Int} (hx : x < B) (hs : s < n) (hn : 0 ≤ n) : x * n + s < B * n := by
 have h1 : x * n ≤ (B - 1) * n := Int.mul_le_mul_of_nonneg_right (by omega) hn
 have h2 : (B - 1) * n = B * n - n := by rw [Int.sub_mul, Int.one_mul]
 omega
theorem rad_inj {x y n s u : Int} (hs0 : 0 ≤ s) (hs : s < n) (hu0 : 0 ≤ u) (hu : u < n) (h : x * n + s = y * n + u) : x = y ∧ s = u := by
 have e1 : (s + n * x) % n = s % n := Int.add_mul_emod_self_left s n x
 have e2 : (u + n * y) % n = u % n := Int.add_mul_emod_self_left u n y
 have c1 : s + n * x = u + n * y := by rw [Int.mul_comm n x, Int.mul_comm n y]; omega
 rw [c1, e2, Int.emod_eq_of_lt hu0 hu, Int.emod_eq_of_lt hs0 hs] at e1
 subst e1
 refine ⟨?_, rfl⟩
 have : x * n = y * n := by omega
 exact Int.eq_of_mul_eq_mul_right (by omega) this
theorem id_inj {K : Kit4} {p q : Sp} (hp : Fits K p) (hq : Fits K q) (h : idP K p = idP K q) : p = q := by
 obtain ⟨p1, p2, p3, p4⟩ := hp
 obtain ⟨q1, q2, q3, q4⟩ := hq
 unfold idP at h
 obtain ⟨h, e4⟩ := rad_inj p4.1 (by omega) q4.1 (by omega) h
 obtain ⟨h, e3⟩ := rad_inj p3.1 (by omega) q3.1 (by omega) h
 obtain ⟨h, e2⟩ := rad_inj p2.1 (by omega) q2.1 (by omega) h
 obtain ⟨h, e1⟩ := rad_inj p1.1 (by omega) q1.1 (by omega) h
 cases p
 cases q
 simp only [Sp.mk.injEq]
 exact ⟨e1, e2, e3, e4, h⟩
theorem id_in {K : Kit4} (hK : K.ok) {p : Sp} (hp : Fits K p) {most : Int} (h0 : 0 ≤ p.t) (h1 : p.t ≤ most) : 0 ≤ idP K p ∧ idP K p < (most + 1) * manyP K := by
 obtain ⟨k1, k2, k3, k4⟩ := hK
 obtain ⟨p1, p2, p3, p4⟩ := hp
 have n1 : 0 ≤ p.t * (K.a + 1) + p.a := by have := Int.mul_nonneg h0 (show 0 ≤ K.a + 1 by omega); omega
 have n2 : 0 ≤ (p.t * (K.a + 1) + p.a) * (K.b + 1) + p.b := by have := Int.mul_nonneg n1 (show 0 ≤ K.b + 1 by omega); omega
 have n3 : 0 ≤ ((p.t * (K.a + 1) + p.a) * (K.b + 1) + p.b) * (K.c + 1) + p.c := by have := Int.mul_nonneg n2 (show 0 ≤ K.c + 1 by omega); omega
 have n4 : 0 ≤ (((p.t * (K.a + 1) + p.a) * (K.b + 1) + p.b) * (K.c + 1) + p.c) * (K.d + 1) + p.d := by have := Int.mul_nonneg n3 (show 0 ≤ K.d + 1 by omega); omega
 have l1 := rad_lt (x := p.t) (n := K.a + 1) (s := p.a) (B := most + 1) (by omega) (by omega) (by omega)
 have l2 := rad_lt (n := K.b + 1) (s := p.b) l1 (by omega) (by omega)
 have l3 := rad_lt (n := K.c + 1) (s := p.c) l2 (by omega) (by omega)
 have l4 := rad_lt (n := K.d + 1) (s := p.d) l3 (by omega) (by omega)
 refine ⟨n4, ?_⟩
 unfold idP manyP
 rw [show (most + 1) * ((K.a + 1) * (K.b + 1) * (K.c + 1) * (K.d + 1)) = (most + 1) * (K.a + 1) * (K.b + 1) * (K.c + 1) * (K.d + 1) from by simp only [Int.mul_assoc]]
 exact l4
theorem s_id_go (K : Kit4) (hK : K.ok) (p : Sp) (hp : Fits K p) (h0 : 0 ≤ p.t) (h1 : p.t ≤ 40) : spec_l3Id.f K.a K.b K.c K.d p.t p.a p.b p.c p.d = some (idP K p) := by
 obtain ⟨k1, k2, k3, k4⟩ := hK
 obtain ⟨p1, p2, p3, p4⟩ := hp
 have b1 := mulb (a := p.t) (b := K.a + 1) (A := 40) (B := 31) (by omega) (by omega) (by omega) (by omega)
 have b2 := mulb (a := p.t * (K.a + 1) + p.a) (b := K.b + 1) (A := 1270) (B := 31) (by omega) (by omega) (by omega) (by omega)
 have b3 := mulb (a := (p.t * (K.a + 1) + p.a) * (K.b + 1) + p.b) (b := K.c + 1) (A := 39400) (B := 31) (by omega) (by omega) (by omega) (by omega)
 have b4 := mulb (a := ((p.t * (K.a + 1) + p.a) * (K.b + 1) + p.b) * (K.c + 1) + p.c) (b := K.d + 1) (A := 1221430) (B := 31) (by omega) (by omega) (by omega) (by omega)
 unfold spec_l3Id.f idP
 rw [wr (K.a + 1) (by omega) (by omega), wr (K.b + 1) (by omega) (by omega), wr (K.c + 1) (by omega) (by omega), wr (K.d + 1) (by omega) (by omega),
  wr (p.t * (K.a + 1)) (by omega) (by omega), wr (p.t * (K.a + 1) + p.a) (by omega) (by omega),
  wr ((p.t * (K.a + 1) + p.a) * (K.b + 1)) (by omega) (by omega), wr ((p.t * (K.a + 1) + p.a) * (K.b + 1) + p.b) (by omega) (by omega),
  wr (((p.t * (K.a + 1) + p.a) * (K.b + 1) + p.b) * (K.c + 1)) (by omega) (by omega), wr (((p.t * (K.a + 1) + p.a) * (K.b + 1) + p.b) * (K.c + 1) + p.c) (by omega) (by omega),
  wr ((((p.t * (K.a + 1) + p.a) * (K.b + 1) + p.b) * (K.c + 1) + p.c) * (K.d + 1)) (by omega) (by omega), wr ((((p.t * (K.a + 1) + p.a) * (K.b + 1) + p.b) * (K.c + 1) + p.c) * (K.d + 1) + p.d) (by omega) (by omega)]
end Go.Proofs.Ytmhnllcdfjggaaa.TT
