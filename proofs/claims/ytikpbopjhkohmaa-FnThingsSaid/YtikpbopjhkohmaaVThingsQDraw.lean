/- The draws of FnThings end: lists of at most five things, of at most nine acts. Conditions: the code's length and its bytes. -/
import Derived.Test.YtikpbopjhkohmaaVThingsBase
set_option linter.unusedVariables false
set_option linter.unusedSimpArgs false
namespace Go.Proofs.Ytikpbopjhkohmaa.Pure
open Go.RowKit Go.Proofs.Ytikpbopjhkohmaa.PT Go.Proofs.Ytikpbopjhkohmaa.PL Go.Proofs.YtikpbopjhkohmaaW.PrintWords Go.Proofs.YtikpbopjhkohmaaW.PrintLast Go.Proofs.YtikpbopjhkohmaaW.PrintMore
/-- A code: short, of bytes. -/
def Cod (l : List Int) : Prop := l.length ≤ 65536 ∧ ∀ x ∈ l, 0 ≤ x ∧ x ≤ 255
theorem byte_bits (z : Int) : 0 ≤ Go.bits .and .u64 z 255 ∧ Go.bits .and .u64 z 255 ≤ 255 := by
  have hw : ∀ n : Nat, n ≤ 255 → IntKind.u64.wrap (n : Int) = n := fun n hn => by
    simp [IntKind.wrap, IntKind.bits, IntKind.signed]
    omega
  have hb : ∀ b : BitVec IntKind.u64.bits, (b &&& BitVec.ofInt IntKind.u64.bits 255).toNat ≤ 255 := fun b => by
    rw [BitVec.toNat_and]
    exact Nat.and_le_right
  simp only [Go.bits]
  rw [hw _ (hb _)]
  have := hb (BitVec.ofInt IntKind.u64.bits z)
  omega
theorem next_ok {l : List Int} (h : Cod l) {a : Int} (x : Int) (h0 : 0 ≤ a) (h1 : a ≤ 1000000) : ∃ v y, spec_l1Cur_next.f l a x = some (v, a + 1, y) ∧ 0 ≤ v ∧ v ≤ 255 := by
  have hw : wrap64 (a + 1) = a + 1 := wr (by omega) (by omega)
  unfold spec_l1Cur_next.f
  simp only [hw]
  have hb : ∀ z, 0 ≤ wrap64 (Go.bits .and .u64 z 255) ∧ wrap64 (Go.bits .and .u64 z 255) ≤ 255 := fun z => by
    have := byte_bits z
    rw [wr (by omega) (by omega)]
    exact this
  by_cases h2 : a < (l.length : Int)
  · rw [if_pos h2, if_pos h0]
    have hr : 0 ≤ rd l a ∧ rd l a ≤ 255 := by
      obtain ⟨n, rfl⟩ := Int.eq_ofNat_of_zero_le h0
      obtain ⟨y, hy⟩ := at_lt (show n < l.length by omega)
      have : rd l (n : Int) = y := by simp [rd, hy]
      rw [this]
      exact h.2 y (List.mem_of_getElem? hy)
    split
    · refine ⟨_, _, rfl, ?_⟩
      rw [wr (by omega) (by omega)]
      exact hr
    · exact ⟨_, _, rfl, hb _⟩
  · rw [if_neg h2]
    split
    · exact ⟨_, _, rfl, by omega, by omega⟩
    · exact ⟨_, _, rfl, hb _⟩
theorem pick_ok {l : List Int} (h : Cod l) {a : Int} (x n : Int) (h0 : 0 ≤ a) (h1 : a ≤ 999990) : ∃ v b y, spec_l1Cur_pick.f l a x n = some (v, b, y) ∧ a ≤ b ∧ b ≤ a + 2 ∧ 0 ≤ v ∧ (0 < n → v < n) := by
  unfold spec_l1Cur_pick.f
  by_cases hn : n ≤ 1
  · rw [if_pos hn]
    exact ⟨_, _, _, rfl, by omega, by omega, by omega, by omega⟩
  · obtain ⟨v, y, e, v0, v1⟩ := next_ok h x h0 (by omega)
    rw [if_neg hn, e, Option.bind_some]
    by_cases h2 : n > 200
    · obtain ⟨v2, y2, e2, w0, w1⟩ := next_ok h y (show 0 ≤ a + 1 by omega) (by omega)
      rw [if_pos h2, e2, Option.bind_some, if_neg (by omega)]
      dsimp only
      rw [wr (n := v * 256) (by omega) (by omega), wr (by omega) (by omega)]
      have ht : Int.tmod (v * 256 + v2) n = (v * 256 + v2) % n := Int.tmod_eq_emod_of_nonneg (by omega)
      exact ⟨_, _, _, rfl, by omega, by omega, by rw [ht]; exact Int.emod_nonneg _ (by omega), fun _ => by rw [ht]; exact Int.emod_lt_of_pos _ (by omega)⟩
    · rw [if_neg h2, if_neg (by omega)]
      have ht : Int.tmod v n = v % n := Int.tmod_eq_emod_of_nonneg (by omega)
      dsimp only
      exact ⟨_, _, _, rfl, by omega, by omega, by rw [ht]; exact Int.emod_nonneg _ (by omega), fun _ => by rw [ht]; exact Int.emod_lt_of_pos _ (by omega)⟩
theorem among_ok {l : List Int} (h : Cod l) {a : Int} (x : Int) {m : List Int} (hm : 0 < m.length) (h0 : 0 ≤ a) (h1 : a ≤ 999990) : ∃ v b y, spec_l1Cur_among.f l a x m = some (v, b, y) ∧ a ≤ b ∧ b ≤ a + 2 ∧ v ∈ m := by
  unfold spec_l1Cur_among.f
  obtain ⟨v, b, y, e, b0, b1, v0, v1⟩ := pick_ok h x (m.length : Int) h0 h1
  rw [e, Option.bind_some]
  dsimp only
  rw [if_pos v0, if_pos (v1 (by omega))]
  refine ⟨_, _, _, rfl, b0, b1, ?_⟩
  obtain ⟨n, rfl⟩ := Int.eq_ofNat_of_zero_le v0
  have := v1 (by omega)
  obtain ⟨z, hz⟩ := at_lt (show n < m.length by omega)
  have hr : rd m (n : Int) = z := by simp [rd, hz]
  rw [hr]
  exact List.mem_of_getElem? hz
theorem one_ok {l : List Int} (h : Cod l) {a : Int} (x n : Int) (h0 : 0 ≤ a) (h1 : a ≤ 999990) : ∃ v b y, spec_l1Cur_one.f l a x n = some (v, b, y) ∧ a ≤ b ∧ b ≤ a + 2 := by
  unfold spec_l1Cur_one.f
  obtain ⟨v, b, y, e, b0, b1, _⟩ := pick_ok h x n h0 h1
  rw [e, Option.bind_some]
  exact ⟨_, _, _, rfl, b0, b1⟩
theorem thing_j4 {l : List Int} (h : Cod l) (k : Nat) {a : Int} (x p q r s : Int) (h0 : 0 ≤ a) (h1 : a ≤ 999900) : ∃ u v w z b y, spec_l1Cur_thing.j4 (k + 1) l a x p q r s = some (u, v, w, z, b, y) ∧ a ≤ b ∧ b ≤ a + 4 := by
  simp only [spec_l1Cur_thing.j4]
  obtain ⟨v, b, y, e, b0, b1, _⟩ := pick_ok h x 100 h0 (by omega)
  rw [e, Option.bind_some]
  dsimp only
  have ha : ∀ m : List Int, 0 < m.length → ∃ v c z, spec_l1Cur_among.f l b y m = some (v, c, z) ∧ a ≤ c ∧ c ≤ a + 4 := fun m hm => by
    obtain ⟨v, c, z, e, c0, c1, _⟩ := among_ok h y hm (show 0 ≤ b by omega) (by omega)
    exact ⟨v, c, z, e, by omega, by omega⟩
  repeat' split
  all_goals first
    | (obtain ⟨v, c, z, e, c0, c1⟩ := ha [0, 4, (-1)] (by decide); rw [e, Option.bind_some]; exact ⟨_, _, _, _, _, _, rfl, c0, c1⟩)
    | (obtain ⟨v, c, z, e, c0, c1⟩ := ha [0, 61, (-1)] (by decide); rw [e, Option.bind_some]; exact ⟨_, _, _, _, _, _, rfl, c0, c1⟩)
    | (obtain ⟨v, c, z, e, c0, c1⟩ := ha [(-1), wrap64 ((wrap64 (4 * q)) + 1)] (by simp); rw [e, Option.bind_some]; exact ⟨_, _, _, _, _, _, rfl, c0, c1⟩)
    | (obtain ⟨v, c, z, e, c0, c1⟩ := ha [(-1), 3, 1, 2] (by decide); rw [e, Option.bind_some]; exact ⟨_, _, _, _, _, _, rfl, c0, c1⟩)
    | exact ⟨_, _, _, _, _, _, rfl, by omega, by omega⟩
theorem thing_j2 {l : List Int} (h : Cod l) (k : Nat) {a : Int} (x p q r s : Int) (h0 : 0 ≤ a) (h1 : a ≤ 999800) : ∃ u v w z b y, spec_l1Cur_thing.j2 (k + 3) l a x p q r s = some (u, v, w, z, b, y) ∧ a ≤ b ∧ b ≤ a + 8 := by
  have hj3 : ∀ (t : Bool) (a' x' : Int), a ≤ a' → a' ≤ a + 2 → ∃ u v w z b y, spec_l1Cur_thing.j3 (k + 2) t l a' x' p q r s = some (u, v, w, z, b, y) ∧ a ≤ b ∧ b ≤ a + 8 := by
    intro t a' x' g0 g1
    have h4 : ∀ (a2 x2 s2 : Int), a ≤ a2 → a2 ≤ a + 4 → ∃ u v w z b y, spec_l1Cur_thing.j4 (k + 1) l a2 x2 p q r s2 = some (u, v, w, z, b, y) ∧ a ≤ b ∧ b ≤ a + 8 := by
      intro a2 x2 s2 f0 f1
      obtain ⟨u, v, w, z, b, y, e, b0, b1⟩ := thing_j4 h k x2 p q r s2 (show 0 ≤ a2 by omega) (by omega)
      exact ⟨u, v, w, z, b, y, e, by omega, by omega⟩
    simp only [spec_l1Cur_thing.j3]
    by_cases c1 : t = true
    · rw [if_pos c1]
      by_cases c2 : p = 2
      · rw [if_pos c2]
        obtain ⟨v, b, y, e, b0, b1⟩ := one_ok h x' 2 (show 0 ≤ a' by omega) (by omega)
        rw [e, Option.bind_some]
        dsimp only
        split
        · exact h4 _ _ _ (by omega) (by omega)
        · exact h4 _ _ _ (by omega) (by omega)
      · rw [if_neg c2]
        exact h4 _ _ _ (by omega) (by omega)
    · rw [if_neg c1]
      exact h4 _ _ _ (by omega) (by omega)
  simp only [spec_l1Cur_thing.j2]
  by_cases c1 : p = 1
  · rw [if_pos c1]
    exact hj3 _ _ _ (by omega) (by omega)
  · rw [if_neg c1]
    by_cases c2 : r > 0
    · rw [if_pos c2]
      obtain ⟨v, b, y, e, b0, b1⟩ := one_ok h x 3 h0 (by omega)
      rw [e, Option.bind_some]
      exact hj3 _ _ _ b0 b1
    · rw [if_neg c2]
      exact hj3 _ _ _ (by omega) (by omega)
theorem thing_j0 {l : List Int} (h : Cod l) (k : Nat) (t : Bool) {a : Int} (x p q r s : Int) (h0 : 0 ≤ a) (h1 : a ≤ 999700) : ∃ u v w z b y, spec_l1Cur_thing.j0 (k + 5) t l a x p q r s = some (u, v, w, z, b, y) ∧ a ≤ b ∧ b ≤ a + 12 := by
  have hj2 : ∀ (a' x' r' : Int), a ≤ a' → a' ≤ a + 4 → ∃ u v w z b y, spec_l1Cur_thing.j2 (k + 3) l a' x' p q r' s = some (u, v, w, z, b, y) ∧ a ≤ b ∧ b ≤ a + 12 := by
    intro a' x' r' g0 g1
    obtain ⟨u, v, w, z, b, y, e, b0, b1⟩ := thing_j2 h k x' p q r' s (show 0 ≤ a' by omega) (by omega)
    exact ⟨u, v, w, z, b, y, e, by omega, by omega⟩
  have hj1 : ∀ r' : Int, ∃ u v w z b y, spec_l1Cur_thing.j1 (k + 4) l a x p q r' s = some (u, v, w, z, b, y) ∧ a ≤ b ∧ b ≤ a + 12 := by
    intro r'
    simp only [spec_l1Cur_thing.j1]
    obtain ⟨v, b, y, e, b0, b1⟩ := one_ok h x 3 h0 (by omega)
    rw [e, Option.bind_some]
    dsimp only
    split
    · obtain ⟨v2, b2, y2, e2, c0, c1, _⟩ := pick_ok h y (wrap64 ((wrap64 (4 * q)) + 1)) (show 0 ≤ b by omega) (by omega)
      rw [e2, Option.bind_some]
      exact hj2 _ _ _ (by dsimp only; omega) (by dsimp only; omega)
    · exact hj2 _ _ _ (by omega) (by omega)
  simp only [spec_l1Cur_thing.j0]
  split
  · exact hj1 _
  · exact hj1 _
theorem thing_ok {l : List Int} (h : Cod l) {k : Nat} (hk : 5 ≤ k) {a : Int} (x : Int) (h0 : 0 ≤ a) (h1 : a ≤ 999600) : ∃ u v w z b y, spec_l1Cur_thing.f k l a x = some (u, v, w, z, b, y) ∧ a ≤ b ∧ b ≤ a + 18 := by
  obtain ⟨k, rfl⟩ : ∃ m, k = m + 5 := ⟨k - 5, by omega⟩
  unfold spec_l1Cur_thing.f
  obtain ⟨v, b, y, e, b0, b1, _⟩ := pick_ok h x 3 h0 (by omega)
  rw [e, Option.bind_some]
  dsimp only
  obtain ⟨v2, b2, y2, e2, c0, c1, _⟩ := among_ok h y (m := [4, 7, 60, 5, 1, 2, 10]) (by decide) (show 0 ≤ b by omega) (by omega)
  rw [e2, Option.bind_some]
  dsimp only
  have hj : ∀ (t : Bool) (a' x' : Int), b2 ≤ a' → a' ≤ b2 + 2 → ∃ u w z o b y, spec_l1Cur_thing.j0 (k + 5) t l a' x' (wrap64 (1 + v)) v2 (wrap64 (4 * v2)) 0 = some (u, w, z, o, b, y) ∧ a ≤ b ∧ b ≤ a + 18 := by
    intro t a' x' g0 g1
    obtain ⟨u, v, w, z, b, y, e, b0, b1⟩ := thing_j0 h k t x' (wrap64 (1 + v)) v2 (wrap64 (4 * v2)) 0 (show 0 ≤ a' by omega) (by omega)
    exact ⟨u, v, w, z, b, y, e, by omega, by omega⟩
  split
  · obtain ⟨v3, b3, y3, e3, d0, d1⟩ := one_ok h y2 3 (show 0 ≤ b2 by omega) (by omega)
    rw [e3, Option.bind_some]
    exact hj _ _ _ d0 d1
  · exact hj _ _ _ (by omega) (by omega)
theorem things_go {l : List Int} (h : Cod l) : ∀ (n k : Nat) (xs : List S45) (a x : Int), n ≤ 100 → n + 6 ≤ k → xs.length + n ≤ 100 → 0 ≤ a → a + 18 * n ≤ 999000 → ∃ ys b y, spec_l1Cur_things.l0 k xs (n : Int) l a x = some (ys, b, y) ∧ ys.length = xs.length + n ∧ a ≤ b ∧ b ≤ a + 18 * n := by
  intro n
  induction n with
  | zero =>
    intro k xs a x _ hk _ h0 h1
    obtain ⟨k, rfl⟩ : ∃ m, k = m + 1 := ⟨k - 1, by omega⟩
    simp only [spec_l1Cur_things.l0]
    rw [if_neg (by omega)]
    exact ⟨_, _, _, rfl, by omega, by omega, by omega⟩
  | succ n ih =>
    intro k xs a x hn hk hx h0 h1
    obtain ⟨k, rfl⟩ : ∃ m, k = m + 1 := ⟨k - 1, by omega⟩
    simp only [spec_l1Cur_things.l0]
    rw [if_pos (by omega)]
    obtain ⟨u, v, w, z, b, y, e, b0, b1⟩ := thing_ok h (show 5 ≤ k by omega) x h0 (by omega)
    rw [e, Option.bind_some, if_pos (by omega), wr (by omega) (by omega), show ((n + 1 : Nat) : Int) - 1 = (n : Int) by omega]
    dsimp only
    obtain ⟨ys, b', y', e', l', c0, c1⟩ := ih k (xs ++ [⟨u, v, w, z⟩]) b y (by omega) (by omega) (by rw [List.length_append, List.length_singleton]; omega) (by omega) (by omega)
    rw [List.length_append, List.length_singleton] at l'
    exact ⟨ys, b', y', e', by omega, by omega, by omega⟩
theorem things_ok {l : List Int} (h : Cod l) {k : Nat} (hk : 20 ≤ k) (x : Int) : ∃ ys b y, spec_l1Cur_things.f k l 0 x = some (ys, b, y) ∧ ys.length ≤ 5 ∧ 0 ≤ b ∧ b ≤ 1000 := by
  unfold spec_l1Cur_things.f
  obtain ⟨v, b, y, e, b0, b1, hm⟩ := among_ok h x (m := [2, 3, 1, 2, 4, 3, 0, 5]) (by decide) (show (0 : Int) ≤ 0 by omega) (by omega)
  rw [e, Option.bind_some]
  dsimp only
  have hv : 0 ≤ v ∧ v ≤ 5 := by
    simp only [List.mem_cons, List.not_mem_nil, or_false] at hm
    omega
  obtain ⟨n, rfl⟩ := Int.eq_ofNat_of_zero_le hv.1
  obtain ⟨ys, c, z, e2, l2, c0, c1⟩ := things_go h n k [] b y (by omega) (by omega) (by simp; omega) (by omega) (by omega)
  exact ⟨ys, c, z, e2, by simp at l2; omega, by omega, by omega⟩
theorem least_ok (a b : Int) : ∃ c, spec_l1Least.f a b = some c := by
  unfold spec_l1Least.f
  split <;> exact ⟨_, rfl⟩
theorem most_ok (a b : Int) : ∃ c, spec_l1Most.f a b = some c := by
  unfold spec_l1Most.f
  split <;> exact ⟨_, rfl⟩
theorem draw1_ok {l : List Int} (h : Cod l) {k : Nat} (hk : 20 ≤ k) : ∃ xs a, spec_DrawDoAct.f k l = some (xs, a) ∧ xs.length ≤ 5 := by
  unfold spec_DrawDoAct.f
  obtain ⟨ys, b, y, e, hl, b0, b1⟩ := things_ok h hk 0
  rw [e, Option.bind_some]
  dsimp only
  obtain ⟨c, ec⟩ := least_ok (ys.length : Int) 4
  obtain ⟨d, ed⟩ := most_ok c 1
  rw [ec, Option.bind_some, ed, Option.bind_some]
  obtain ⟨v2, b2, y2, e2, c0, c1, _⟩ := pick_ok h y d b0 (by omega)
  rw [e2, Option.bind_some]
  dsimp only
  obtain ⟨v3, b3, y3, e3, _⟩ := pick_ok h y2 24 (show 0 ≤ b2 by omega) (by omega)
  rw [e3, Option.bind_some]
  exact ⟨_, _, rfl, hl⟩
theorem acts_draw {l : List Int} (h : Cod l) (xs : List S45) : ∀ (n k : Nat) (m : List Int) (a x : Int), n ≤ 100 → n + 6 ≤ k → m.length + n ≤ 100 → 0 ≤ a → a + 4 * n ≤ 999000 → ∃ ys b y, spec_l1Cur_acts.l0 k xs m (n : Int) l a x = some (ys, b, y) ∧ ys.length = m.length + n := by
  intro n
  induction n with
  | zero =>
    intro k xs a x _ hk _ h0 h1
    obtain ⟨k, rfl⟩ : ∃ m, k = m + 1 := ⟨k - 1, by omega⟩
    simp only [spec_l1Cur_acts.l0]
    rw [if_neg (by omega)]
    exact ⟨_, _, _, rfl, by omega⟩
  | succ n ih =>
    intro k m a x hn hk hx h0 h1
    obtain ⟨k, rfl⟩ : ∃ m, k = m + 1 := ⟨k - 1, by omega⟩
    simp only [spec_l1Cur_acts.l0]
    rw [if_pos (by omega)]
    obtain ⟨c, ec⟩ := least_ok (xs.length : Int) 4
    obtain ⟨d, ed⟩ := most_ok c 1
    rw [ec, Option.bind_some, ed, Option.bind_some]
    obtain ⟨v2, b2, y2, e2, c0, c1, _⟩ := pick_ok h x d h0 (by omega)
    rw [e2, Option.bind_some]
    dsimp only
    obtain ⟨v3, b3, y3, e3, d0, d1, _⟩ := pick_ok h y2 40 (show 0 ≤ b2 by omega) (by omega)
    rw [e3, Option.bind_some, if_pos (by omega), wr (n := ((n + 1 : Nat) : Int) - 1) (by omega) (by omega), show ((n + 1 : Nat) : Int) - 1 = (n : Int) by omega]
    dsimp only
    obtain ⟨ys, b', y', e', l'⟩ := ih k (m ++ [wrap64 (v2 - wrap64 (Int.tdiv v3 39))]) b3 y3 (by omega) (by omega) (by rw [List.length_append, List.length_singleton]; omega) (by omega) (by omega)
    rw [List.length_append, List.length_singleton] at l'
    exact ⟨ys, b', y', e', by omega⟩
theorem draw2_ok {l : List Int} (h : Cod l) {k : Nat} (hk : 40 ≤ k) : ∃ xs m, spec_DrawDoActs.f k l = some (xs, m) ∧ xs.length ≤ 5 ∧ m.length ≤ 9 := by
  unfold spec_DrawDoActs.f spec_l1Cur_acts.f
  obtain ⟨ys, b, y, e, hl, b0, b1⟩ := things_ok h (show 20 ≤ k by omega) 0
  rw [e, Option.bind_some]
  dsimp only
  obtain ⟨v, b2, y2, e2, c0, c1, hm⟩ := among_ok h y (m := [1, 2, 0, 3, 1, 2, 9]) (by decide) b0 (by omega)
  rw [e2, Option.bind_some]
  dsimp only
  have hv : 0 ≤ v ∧ v ≤ 9 := by
    simp only [List.mem_cons, List.not_mem_nil, or_false] at hm
    omega
  obtain ⟨n, rfl⟩ := Int.eq_ofNat_of_zero_le hv.1
  obtain ⟨m, b3, y3, e3, l3⟩ := acts_draw h ys n k [] b2 y2 (by omega) (by omega) (by simp; omega) (by omega) (by omega)
  rw [e3, Option.bind_some]
  exact ⟨_, _, rfl, hl, by dsimp only; simp at l3; omega⟩
theorem draw3_ok {l : List Int} (h : Cod l) {k : Nat} (hk : 20 ≤ k) : ∃ xs d, spec_DrawPassQuarters.f k l = some (xs, d) ∧ xs.length ≤ 5 := by
  unfold spec_DrawPassQuarters.f
  obtain ⟨ys, b, y, e, hl, b0, b1⟩ := things_ok h hk 0
  rw [e, Option.bind_some]
  dsimp only
  obtain ⟨v, b2, y2, e2, _⟩ := among_ok h y (m := [1, 4, 0, 10, 240, 4611686018427387904, (-1), 3]) (by decide) b0 (by omega)
  rw [e2, Option.bind_some]
  exact ⟨_, _, rfl, hl⟩
theorem draw4_ok {l : List Int} (h : Cod l) : ∃ a n, spec_DrawNewThing.f l = some (a, n) := by
  unfold spec_DrawNewThing.f
  obtain ⟨v, b, y, e, b0, b1, _⟩ := among_ok h 0 (m := [1, 2, 3, 1, 2, 3, 0, 4]) (by decide) (show (0 : Int) ≤ 0 by omega) (by omega)
  rw [e, Option.bind_some]
  dsimp only
  obtain ⟨v2, b2, y2, e2, _⟩ := among_ok h y (m := [5, 60, 1, 7, 0, 61, (-1)]) (by decide) b0 (by omega)
  rw [e2, Option.bind_some]
  exact ⟨_, _, rfl⟩
end Go.Proofs.Ytikpbopjhkohmaa.Pure
