import Derived.Test.YtmhnllcdfjggaaaVOutTogetTold
namespace Go.Proofs.Ytmhnllcdfjggaaa.TT
open Go.RowKit Go.Proofs.YtmhnllcdfjggaaaW.PrintWords Go.Proofs.YtmhnllcdfjggaaaW.PrintLast Go.Proofs.Ytmhnllcdfjggaaa.PB Go.Proofs.Ytmhnllcdfjggaaa.Mp Go.Proofs.Ytmhnllcdfjggaaa.Lv
set_option linter.unusedVariables false
set_option linter.unusedSimpArgs false

theorem wr (n : Int) (h1 : -9223372036854775808 ≤ n) (h2 : n < 9223372036854775808) : wrap64 n = n := by unfold wrap64; omega
def all16 : List Int := [0, 1, 2, 3, 4, 5, 6, 7, 8, 9, 10, 11, 12, 13, 14, 15]
theorem mem16 {n : Int} (h0 : 0 ≤ n) (h1 : n ≤ 15) : n ∈ all16 := by
 simp only [all16, List.mem_cons, List.not_mem_nil, or_false]
 omega
theorem of_mem16 {n : Int} (h : n ∈ all16) : 0 ≤ n ∧ n ≤ 15 := by
 simp only [all16, List.mem_cons, List.not_mem_nil, or_false] at h
 omega
theorem bit1 : ∀ set ∈ all16, (Go.bits .and .i64 set 1 = 1) = (bitP set 1 = true) := by decide
theorem bit2 : ∀ set ∈ all16, (Go.bits .and .i64 (set / 2) 1 = 1) = (bitP set 2 = true) := by decide
theorem bit4 : ∀ set ∈ all16, (Go.bits .and .i64 (set / 4) 1 = 1) = (bitP set 4 = true) := by decide
theorem bit8 : ∀ set ∈ all16, (Go.bits .and .i64 (set / 8) 1 = 1) = (bitP set 8 = true) := by decide
/-- A kit and its sand. -/
structure Kit4 where
  (a b c d : Int)
def Kit4.ok (K : Kit4) : Prop := (0 ≤ K.a ∧ K.a ≤ 30) ∧ (0 ≤ K.b ∧ K.b ≤ 30) ∧ (0 ≤ K.c ∧ K.c ≤ 30) ∧ (0 ≤ K.d ∧ K.d ≤ 30)
def Fits (K : Kit4) (p : Sp) : Prop := (0 ≤ p.a ∧ p.a ≤ K.a) ∧ (0 ≤ p.b ∧ p.b ≤ K.b) ∧ (0 ≤ p.c ∧ p.c ≤ K.c) ∧ (0 ≤ p.d ∧ p.d ≤ K.d)
theorem turnP_in {K s : Int} (h : 0 ≤ s ∧ s ≤ K) (on : Bool) : 0 ≤ turnP K s on ∧ turnP K s on ≤ K := by
 unfold turnP
 split <;> omega
theorem turn_go (k : Nat) (K : Kit4) (hK : K.ok) (p : Sp) (hp : Fits K p) (set : Int) (hs : set ∈ all16) :
 impl_Kit_turn.f (k + 4) K.a K.b K.c K.d p.a p.b p.c p.d set = some (turnP K.a p.a (bitP set 1), turnP K.b p.b (bitP set 2), turnP K.c p.c (bitP set 4), turnP K.d p.d (bitP set 8)) := by
 have w1 := wr (K.a - p.a) (by have := hK.1; have := hp.1; omega) (by have := hK.1; have := hp.1; omega)
 have w2 := wr (K.b - p.b) (by have := hK.2.1; have := hp.2.1; omega) (by have := hK.2.1; have := hp.2.1; omega)
 have w3 := wr (K.c - p.c) (by have := hK.2.2.1; have := hp.2.2.1; omega) (by have := hK.2.2.1; have := hp.2.2.1; omega)
 have w4 := wr (K.d - p.d) (by have := hK.2.2.2; have := hp.2.2.2; omega) (by have := hK.2.2.2; have := hp.2.2.2; omega)
 unfold impl_Kit_turn.f
 simp only [impl_Kit_turn.j0, impl_Kit_turn.j1, impl_Kit_turn.j2, impl_Kit_turn.j3, bit1 set hs, bit2 set hs, bit4 set hs, bit8 set hs, w1, w2, w3, w4, turnP]
 cases bitP set 1 <;> cases bitP set 2 <;> cases bitP set 4 <;> cases bitP set 8 <;> rfl
theorem next_go (k : Nat) (a b c d : Int) : impl_next.f (k + 8) a b c d = some (nextP a b c d) := by
 have e0 : impl_next.f (k + 8) a b c d = impl_next.j1 (k + 7 - 1 + 1) (least0 0 a) a b c d := by
  unfold impl_next.f least0
  by_cases h : a > 0
  ·rw [if_pos h, if_pos ⟨h, Or.inl rfl⟩]
   rfl
  ·rw [if_neg h, if_neg (fun h' => h h'.1)]
   rfl
 have e1 : ∀ (k : Nat) (x : Int), impl_next.j1 (k + 2) x a b c d = impl_next.j3 k (least0 x b) a b c d := by
  intro k x
  rw [impl_next.j1]
  unfold least0
  by_cases h : b > 0
  ·rw [if_pos h]
   by_cases hx : x = 0
   ·rw [if_pos hx, if_pos ⟨h, Or.inl hx⟩]
    rfl
   ·rw [if_neg hx]
    by_cases hl : b < x
    ·rw [if_pos ⟨h, Or.inr hl⟩, decide_eq_true hl]
     rfl
    ·rw [if_neg (fun h' => h'.2.elim hx hl), decide_eq_false hl]
     rfl
  ·rw [if_neg h, if_neg (fun h' => h h'.1)]
   rfl
 have e2 : ∀ (k : Nat) (x : Int), impl_next.j3 (k + 2) x a b c d = impl_next.j5 k (least0 x c) a b c d := by
  intro k x
  rw [impl_next.j3]
  unfold least0
  by_cases h : c > 0
  ·rw [if_pos h]
   by_cases hx : x = 0
   ·rw [if_pos hx, if_pos ⟨h, Or.inl hx⟩]
    rfl
   ·rw [if_neg hx]
    by_cases hl : c < x
    ·rw [if_pos ⟨h, Or.inr hl⟩, decide_eq_true hl]
     rfl
    ·rw [if_neg (fun h' => h'.2.elim hx hl), decide_eq_false hl]
     rfl
  ·rw [if_neg h, if_neg (fun h' => h h'.1)]
   rfl
 have e3 : ∀ (k : Nat) (x : Int), impl_next.j5 (k + 3) x a b c d = some (least0 x d) := by
  intro k x
  rw [impl_next.j5]
  unfold least0
  by_cases h : d > 0
  ·rw [if_pos h]
   by_cases hx : x = 0
   ·rw [if_pos hx, if_pos ⟨h, Or.inl hx⟩]
    rfl
   ·rw [if_neg hx]
    by_cases hl : d < x
    ·rw [if_pos ⟨h, Or.inr hl⟩, decide_eq_true hl]
     rfl
    ·rw [if_neg (fun h' => h'.2.elim hx hl), decide_eq_false hl]
     rfl
  ·rw [if_neg h, if_neg (fun h' => h h'.1)]
   rfl
 rw [e0]
 show impl_next.j1 ((k + 5) + 2) _ a b c d = _
 rw [e1]
 show impl_next.j3 ((k + 3) + 2) _ a b c d = _
 rw [e2, e3]
 rfl
theorem least0_in {m n : Int} (h : 0 ≤ m ∧ m ≤ 30) (hn : n ≤ 30) : 0 ≤ least0 m n ∧ least0 m n ≤ 30 := by
 unfold least0
 split <;> omega
theorem nextP_in {a b c d : Int} (h1 : a ≤ 30) (h2 : b ≤ 30) (h3 : c ≤ 30) (h4 : d ≤ 30) : 0 ≤ nextP a b c d ∧ nextP a b c d ≤ 30 :=
 least0_in (least0_in (least0_in (least0_in ⟨by decide, by decide⟩ h1) h2) h3) h4
theorem passP_in {n K d : Int} (h : 0 ≤ n ∧ n ≤ K) (hd : 0 ≤ d) : 0 ≤ passP d n ∧ passP d n ≤ K := by
 unfold passP
 omega
theorem pass_go (a b c d t : Int) (h1 : 0 ≤ a ∧ a ≤ 30) (h2 : 0 ≤ b ∧ b ≤ 30) (h3 : 0 ≤ c ∧ c ≤ 30) (h4 : 0 ≤ d ∧ d ≤ 30) (ht : 0 ≤ t ∧ t ≤ 30) : impl_pass.f a b c d t = some (passP t a, passP t b, passP t c, passP t d) := by
 have one : ∀ n : Int, 0 ≤ n ∧ n ≤ 30 → mx (wrap64 (n - (mn t n))) 0 = passP t n := by
  intro n hn
  have e : mn t n = min t n := by unfold mn; omega
  rw [e, wr (n - min t n) (by omega) (by omega)]
  unfold mx passP
  omega
 unfold impl_pass.f
 rw [one a h1, one b h2, one c h3, one d h4]
theorem step_go (k : Nat) (K : Kit4) (hK : K.ok) (p : Sp) (hp : Fits K p) (set : Int) (hs : set ∈ all16) :
 impl_Kit_step.f (k + 8) K.a K.b K.c K.d p.a p.b p.c p.d set = some (stepP K.a K.b K.c K.d p set) := by
 obtain ⟨k1, k2, k3, k4⟩ := hK
 have t1 := turnP_in hp.1 (bitP set 1)
 have t2 := turnP_in hp.2.1 (bitP set 2)
 have t3 := turnP_in hp.2.2.1 (bitP set 4)
 have t4 := turnP_in hp.2.2.2 (bitP set 8)
 have n0 := nextP_in (a := turnP K.a p.a (bitP set 1)) (b := turnP K.b p.b (bitP set 2)) (c := turnP K.c p.c (bitP set 4)) (d := turnP K.d p.d (bitP set 8)) (by omega) (by omega) (by omega) (by omega)
 unfold impl_Kit_step.f
 rw [turn_go (k + 4) K ⟨k1, k2, k3, k4⟩ p hp set hs]
 simp only [Option.bind_some]
 rw [next_go]
 simp only [Option.bind_some]
 rw [pass_go _ _ _ _ _ ⟨t1.1, by omega⟩ ⟨t2.1, by omega⟩ ⟨t3.1, by omega⟩ ⟨t4.1, by omega⟩ n0]
 rfl
/-- Where a step leads. -/
theorem stepP_in (K : Kit4) (hK : K.ok) (p : Sp) (hp : Fits K p) (set : Int) : ∃ r1 r2 r3 r4 d, stepP K.a K.b K.c K.d p set = (r1, r2, r3, r4, d) ∧ 0 ≤ d ∧ d ≤ 30 ∧ ∀ t, Fits K ⟨r1, r2, r3, r4, t⟩ := by
 obtain ⟨k1, k2, k3, k4⟩ := hK
 have t1 := turnP_in hp.1 (bitP set 1)
 have t2 := turnP_in hp.2.1 (bitP set 2)
 have t3 := turnP_in hp.2.2.1 (bitP set 4)
 have t4 := turnP_in hp.2.2.2 (bitP set 8)
 have n0 := nextP_in (a := turnP K.a p.a (bitP set 1)) (b := turnP K.b p.b (bitP set 2)) (c := turnP K.c p.c (bitP set 4)) (d := turnP K.d p.d (bitP set 8)) (by omega) (by omega) (by omega) (by omega)
 exact ⟨_, _, _, _, _, rfl, n0.1, n0.2, fun t => ⟨passP_in t1 n0.1, passP_in t2 n0.1, passP_in t3 n0.1, passP_in t4 n0.1⟩⟩
/-! ### the sets -/
def maskP (b0 b1 b2 b3 : Bool) : Int := (if b0 then 1 else 0) + (if b1 then 2 else 0) + (if b2 then 4 else 0) + (if b3 then 8 else 0)
theorem all_go (k : Nat) (a b c d : Int) : impl_Kit_all.f (k + 4) a b c d = some (maskP (decide (0 < a)) (decide (0 < b)) (decide (0 < c)) (decide (0 < d))) := by
 unfold impl_Kit_all.f
 simp only [impl_Kit_all.j0, impl_Kit_all.j1, impl_Kit_all.j2, impl_Kit_all.j3, gt_iff_lt]
 by_cases h1 : 0 < a <;> by_cases h2 : 0 < b <;> by_cases h3 : 0 < c <;> by_cases h4 : 0 < d <;> simp only [h1, h2, h3, h4, if_true, if_false, decide_true, decide_false] <;> rfl
theorem mask_ok : ∀ set ∈ all16, ∀ b0 b1 b2 b3 : Bool, (Go.bits .andNot .i64 set (maskP b0 b1 b2 b3) == 0) = ((!bitP set 1 || b0) && (!bitP set 2 || b1) && (!bitP set 4 || b2) && (!bitP set 8 || b3)) := by decide
theorem isSet_go (k : Nat) (K : Kit4) (set : Int) (hs : set ∈ all16) : impl_Kit_isSet.f (k + 4) K.a K.b K.c K.d set = some (setOk K.a K.b K.c K.d set) := by
 obtain ⟨h0, h1⟩ := of_mem16 hs
 unfold impl_Kit_isSet.f impl_within.f
 rw [if_pos (by omega), Option.bind_some, decide_eq_true h1, if_pos rfl, all_go, Option.bind_some, mask_ok set hs]
 rfl
theorem sets_loop (K : Kit4) : ∀ (m k : Nat) (acc : List Int), m ≤ 16 → acc.length + m ≤ 100 →
 impl_Kit_sets.l0 (k + m + 5) acc ((16 - m : Nat) : Int) K.a K.b K.c K.d = some (acc ++ ((List.range' (16 - m) m).map fun n : Nat => (n : Int)).filter (setOk K.a K.b K.c K.d))
 | 0, k, acc, _, _ => by
  rw [impl_Kit_sets.l0, if_neg (by omega)]
  simp
 | m + 1, k, acc, h, hl => by
  have ih := sets_loop K m k
  have e1 : wrap64 (((16 - (m + 1) : Nat) : Int) + 1) = ((16 - m : Nat) : Int) := by rw [wr _ (by omega) (by omega)]; omega
  have e2 : List.range' (16 - (m + 1)) (m + 1) = (16 - (m + 1)) :: List.range' (16 - m) m := by
   rw [List.range'_succ]
   congr 2
   omega
  rw [show k + (m + 1) + 5 = (k + m + 5) + 1 from by omega, impl_Kit_sets.l0, if_pos (by omega), show k + m + 5 = (k + m + 1) + 4 from by omega, isSet_go _ K _ (mem16 (by omega) (by omega)), Option.bind_some, e1, e2, List.map_cons]
  by_cases hs : setOk K.a K.b K.c K.d ((16 - (m + 1) : Nat) : Int) = true
  ·rw [if_pos hs, if_pos (by omega), List.filter_cons_of_pos hs]
   have := ih (acc ++ [((16 - (m + 1) : Nat) : Int)]) (by omega) (by rw [List.length_append, List.length_singleton]; omega)
   rw [show k + m + 1 + 4 = k + m + 5 from by omega, this, List.append_assoc]
   rfl
  ·rw [if_neg hs, List.filter_cons_of_neg hs]
   rw [show k + m + 1 + 4 = k + m + 5 from by omega]
   exact ih acc (by omega) (by omega)
theorem sets_go (k : Nat) (K : Kit4) : impl_Kit_sets.f (k + 21) K.a K.b K.c K.d = some (setsP K.a K.b K.c K.d) := by
 have := sets_loop K 16 k [] (by decide) (by decide)
 exact this
theorem sets_mem {K : Kit4} {set : Int} : set ∈ setsP K.a K.b K.c K.d ↔ set ∈ all16 ∧ setOk K.a K.b K.c K.d set = true := by
 unfold setsP
 rw [List.mem_filter]
 rfl
/-- What told's walk asks for. -/
theorem lvOk (K : Kit4) (hK : K.ok) (s : Sp) (hs : Fits K s) (st : s.t = 0) (most : Int) (h0 : 0 ≤ most) (h1 : most ≤ 40) :
 ∃ k G, LvOk (stepP K.a K.b K.c K.d) k K.a K.b K.c K.d most (setsP K.a K.b K.c K.d) s G ∧ ∀ p, G p → p.t ≤ most := by
 refine ⟨21, fun p => Fits K p ∧ 0 ≤ p.t ∧ p.t ≤ most, ⟨sets_go 0 K, ?_, h0, h1, ?_, ?_, ⟨hs, by omega, by omega⟩, ?_⟩, fun p h => h.2.2⟩
 ·unfold setsP
  exact Nat.le_trans (List.length_filter_le _ _) (by decide)
 ·rintro p ⟨hp, ht0, ht1⟩ set hset
  obtain ⟨r1, r2, r3, r4, d, e, hd0, hd1, hf⟩ := stepP_in K hK p hp set
  refine ⟨r1, r2, r3, r4, d, e, ?_, hd0, by omega, fun _ h => ⟨hf _, by show 0 ≤ p.t + d; omega, h⟩⟩
  rw [← e]
  exact step_go 13 K hK p hp set (sets_mem.1 hset).1
 ·intro set _
  exact ⟨_, rfl⟩
 ·rintro p ⟨hp, ht0, ht1⟩
  obtain ⟨k1, k2, k3, k4⟩ := hK
  obtain ⟨p1, p2, p3, p4⟩ := hp
  have w : ∀ n : Int, 0 ≤ n → n ≤ 40 → (Lit.int .i64 n).wf = true := fun n h0 h1 => by
   have e1 : IntKind.i64.min ≤ n := Int.le_trans (show IntKind.i64.min ≤ 0 from by decide) h0
   have e2 : n ≤ IntKind.i64.max := Int.le_trans h1 (show (40 : Int) ≤ IntKind.i64.max from by decide)
   simp only [Lit.wf, e1, e2, decide_true, Bool.and_self]
  exact ⟨⟨w _ p1.1 (by omega), w _ p2.1 (by omega), w _ p3.1 (by omega), w _ p4.1 (by omega), w _ ht0 (by omega)⟩, ht0, by omega⟩
end Go.Proofs.Ytmhnllcdfjggaaa.TT
