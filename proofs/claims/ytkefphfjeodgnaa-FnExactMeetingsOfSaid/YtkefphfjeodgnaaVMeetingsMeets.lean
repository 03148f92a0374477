/- MeetingsOf: the program's list of times is the reference's, for all candles. Conditions: none. -/
import Derived.Test.YtkefphfjeodgnaaVMeetingsFrs
set_option linter.unusedVariables false
set_option linter.unusedSimpArgs false
namespace Go.Proofs.Ytkefphfjeodgnaa.Pure
open Go.RowKit Go.Proofs.Ytkefphfjeodgnaa.PA Go.Proofs.Ytkefphfjeodgnaa.PL Go.Proofs.YtkefphfjeodgnaaW.PrintWords Go.Proofs.YtkefphfjeodgnaaW.PrintLast Go.Proofs.YtkefphfjeodgnaaW.PrintMore
/-- Two candles meet. -/
def Mb (a b : S25) (t : S28) : Bool :=
  ((len a.f0 a.f1 a.f2 t.f0 t.f1).1 == (len b.f0 b.f1 b.f2 t.f0 t.f1).1 && (len a.f0 a.f1 a.f2 t.f0 t.f1).2 == (len b.f0 b.f1 b.f2 t.f0 t.f1).2) && decide (0 < (len a.f0 a.f1 a.f2 t.f0 t.f1).1) && (burnsAt a t.f0 t.f1 || burnsAt b t.f0 t.f1)
def Cd (x : S25) : Prop := Cand x.f0 x.f1 x.f2
theorem Mb_comm (a b : S25) (t : S28) : Mb a b t = Mb b a t := by
  unfold Mb
  generalize len a.f0 a.f1 a.f2 t.f0 t.f1 = x
  generalize len b.f0 b.f1 b.f2 t.f0 t.f1 = y
  obtain ⟨x1, x2⟩ := x
  obtain ⟨y1, y2⟩ := y
  rw [Bool.or_comm]
  simp only
  by_cases h1 : x1 = y1
  · by_cases h2 : x2 = y2
    · subst h1 h2; rfl
    · have h3 : ¬ y2 = x2 := fun h => h2 h.symm
      have e1 : (x2 == y2) = false := by simpa using h2
      have e2 : (y2 == x2) = false := by simpa using h3
      rw [e1, e2]; simp
  · have h3 : ¬ y1 = x1 := fun h => h1 h.symm
    have e1 : (x1 == y1) = false := by simpa using h1
    have e2 : (y1 == x1) = false := by simpa using h3
    rw [e1, e2]; simp
theorem implLen2 {k : Nat} (hk : BIG ≤ k) {x : S25} (h : Cd x) {t : S28} (ht : Bd t) (hf : Fr t) : impl_Candle_length.f k x.f0 x.f1 x.f2 t.f0 t.f1 = some (len x.f0 x.f1 x.f2 t.f0 t.f1) := by
  unfold Bd at ht
  by_cases h0 : 0 ≤ t.f0
  · exact implLen_ok hk h ⟨by omega, by omega, hf.2⟩
  · unfold Cd Cand at h
    have m1 := mul_bd (a := x.f2) (b := t.f1) (A := 99) (B := 100000) (by omega) (by omega) (by omega) (by omega)
    have h1 : ¬ x.f2 * t.f1 < t.f0 * 1 := by omega
    unfold impl_Candle_length.f impl_whole.f len
    simp only [Option.bind_some]
    rw [implLess_ok (A := 9900000) (B := 100000) (sm (by omega) (by omega)) (sm (by omega) (by omega)) (by omega) (by omega), Option.bind_some, decide_eq_false h1, if_neg h1]
    rfl
theorem implBurn2 {k : Nat} (hk : BIG ≤ k) {x : S25} (h : Cd x) {t : S28} (ht : Bd t) : impl_Candle_burns.f k x.f0 x.f1 x.f2 t.f0 t.f1 = some (burnsAt x t.f0 t.f1) := by
  unfold Bd at ht
  by_cases h0 : 0 ≤ t.f0
  · exact (burns_ok hk h (by omega) (by omega)).2
  · unfold Cd Cand at h
    have m1 := mul_bd (a := x.f2) (b := t.f1) (A := 99) (B := 100000) (by omega) (by omega) (by omega) (by omega)
    have h1 : t.f0 * 1 < x.f2 * t.f1 := by omega
    unfold impl_Candle_burns.f impl_whole.f burnsAt
    simp only [Option.bind_some]
    rw [implLess_ok (A := 100000) (B := 9900000) (sm (by omega) (by omega)) (sm (by omega) (by omega)) (by omega) (by omega), Option.bind_some, decide_eq_true h1, if_pos rfl]
    rfl
theorem implMeet {k : Nat} (hk : BIG ≤ k) {a b : S25} (ha : Cd a) (hb : Cd b) {t : S28} (ht : Bd t) (hf : Fr t) : impl_meet.f k a.f0 a.f1 a.f2 b.f0 b.f1 b.f2 t.f0 t.f1 = some (Mb a b t) := by
  unfold impl_meet.f Mb
  rw [implLen2 hk ha ht hf, Option.bind_some, implLen2 hk hb ht hf, implBurn2 hk ha ht, implBurn2 hk hb ht]
  generalize len a.f0 a.f1 a.f2 t.f0 t.f1 = x
  generalize len b.f0 b.f1 b.f2 t.f0 t.f1 = y
  by_cases h1 : x.1 > 0
  · have h1' : 0 < x.1 := h1
    rw [if_pos h1, Option.bind_some, decide_eq_true h1', Bool.and_true]
    cases (x.1 == y.1 && x.2 == y.2) <;> cases burnsAt a t.f0 t.f1 <;> simp
  · have h1' : ¬ 0 < x.1 := h1
    rw [if_neg h1, decide_eq_false h1']
    simp
theorem specMeet {k : Nat} (hk : BIG ≤ k) {a b : S25} (ha : Cd a) (hb : Cd b) {t : S28} (ht : Bd t) (hf : Fr t) (h0 : 0 ≤ t.f0) : spec_l7Meets.f k a.f0 a.f1 a.f2 b.f0 b.f1 b.f2 t.f0 t.f1 = some (Mb a b t) := by
  unfold Bd at ht
  have hm : Mom t.f0 t.f1 := ⟨by omega, by omega, hf.2⟩
  unfold spec_l7Meets.f Mb
  rw [specLen_ok hk ha hm, Option.bind_some, specLen_ok hk hb hm, Option.bind_some, (burns_ok hk ha (by omega) (by omega)).1, (burns_ok hk hb (by omega) (by omega)).1]
  generalize len a.f0 a.f1 a.f2 t.f0 t.f1 = x
  generalize len b.f0 b.f1 b.f2 t.f0 t.f1 = y
  by_cases h1 : x.1 > 0
  · have h1' : 0 < x.1 := h1
    rw [if_pos h1, decide_eq_true h1', Bool.and_true]
    cases (x.1 == y.1 && x.2 == y.2) <;> cases burnsAt a t.f0 t.f1 <;> simp
  · have h1' : ¬ 0 < x.1 := h1
    rw [if_neg h1, decide_eq_false h1']
    simp
/-! ### Where two candles can meet -/
def fr (a b : Int) : S28 := ⟨(cut a b).1, (cut a b).2⟩
/-- The length that a line comes from at the time 0. -/
def top (x : S25) : Int := x.f2 * x.f1 + x.f0
/-- When the first one, burning, is as long as the other one before it burns. -/
def lvl (a b : S25) : S28 := fr (top a - b.f0) a.f1
/-- When the lines cross. -/
def crs (a b : S25) : S28 := if a.f1 - b.f1 < 0 then fr (-(top a - top b)) (-(a.f1 - b.f1)) else fr (top a - top b) (a.f1 - b.f1)
theorem top_bd {x : S25} (h : Cd x) : 1 ≤ top x ∧ top x ≤ 1287 := by
  unfold Cd Cand at h
  have m1 := mul_bd (a := x.f2) (b := x.f1) (A := 99) (B := 12) (by omega) (by omega) (by omega) (by omega)
  unfold top; omega
theorem fr_bd {a b : Int} (hb : 0 < b) (h1 : a.natAbs ≤ 100000) (h2 : b ≤ 100000) : Bd (fr a b) := by
  have p1 := cut_pos (a := a) hb
  have p2 := cut_le a b hb
  have p3 := cut_abs a b hb
  unfold fr Bd; simp only; omega
theorem Mb_len {a b : S25} {t : S28} (h : Mb a b t = true) : len a.f0 a.f1 a.f2 t.f0 t.f1 = len b.f0 b.f1 b.f2 t.f0 t.f1 ∧ 0 < (len a.f0 a.f1 a.f2 t.f0 t.f1).1 ∧ (burnsAt a t.f0 t.f1 = true ∨ burnsAt b t.f0 t.f1 = true) := by
  unfold Mb at h
  simp only [Bool.and_eq_true, beq_iff_eq, decide_eq_true_eq, Bool.or_eq_true] at h
  exact ⟨Prod.ext h.1.1.1 h.1.1.2, h.1.2, h.2⟩
theorem burns_start {x : S25} {t : S28} (h : burnsAt x t.f0 t.f1 = true) : x.f2 * t.f1 ≤ t.f0 := by
  unfold burnsAt at h
  simp only [Bool.and_eq_true, Bool.not_eq_true', decide_eq_false_iff_not] at h
  omega
theorem cut_inj {X Y u : Int} (hu : 0 < u) (h : cut X u = cut Y u) : X = Y := by
  have a := cut_cross X u hu
  have b := cut_cross Y u hu
  have c := cut_pos (a := Y) hu
  rw [h, b] at a
  exact (Int.eq_of_mul_eq_mul_right (by omega) a).symm
theorem line {x : S25} (h : Cd x) {t : S28} (ht : Fr t) (hs : x.f2 * t.f1 ≤ t.f0) (hp : 0 < (len x.f0 x.f1 x.f2 t.f0 t.f1).1) : len x.f0 x.f1 x.f2 t.f0 t.f1 = cut (top x * t.f1 - x.f1 * t.f0) t.f1 ∧ t.f0 * x.f1 < top x * t.f1 := by
  have l := len_at h ht.1 hs
  by_cases h1 : t.f0 * x.f1 < (x.f2 * x.f1 + x.f0) * t.f1
  · rw [if_pos h1] at l
    refine ⟨?_, h1⟩
    rw [l]
    have : (x.f0 + x.f1 * x.f2) * t.f1 - x.f1 * t.f0 = top x * t.f1 - x.f1 * t.f0 := by unfold top; grind
    rw [this]
  · rw [if_neg h1] at l
    rw [l] at hp; simp at hp
theorem wait {x : S25} {t : S28} (hs : ¬ x.f2 * t.f1 < t.f0) : len x.f0 x.f1 x.f2 t.f0 t.f1 = (x.f0, 1) := by
  unfold len
  rw [if_neg (by omega)]
/-- Ahead of the second one's start they meet at the level's time alone. -/
theorem meet_low {a b : S25} (ha : Cd a) (hb : Cd b) (hs : a.f2 ≤ b.f2) {t : S28} (ht : Fr t) (h : Mb a b t = true) (hl : t.f0 < b.f2 * t.f1) : t = lvl a b := by
  obtain ⟨h1, h2, h3⟩ := Mb_len h
  have hab : a.f2 * t.f1 ≤ b.f2 * t.f1 := Int.mul_le_mul_of_nonneg_right hs (Int.le_of_lt ht.1)
  have hsa : a.f2 * t.f1 ≤ t.f0 := by
    rcases h3 with h3 | h3
    · exact burns_start h3
    · have := burns_start h3; omega
  obtain ⟨l1, l2⟩ := line ha ht hsa h2
  have l3 := wait (x := b) (t := t) (by omega)
  rw [l1, l3] at h1
  have hz : a.f1 ≠ 0 := by unfold Cd Cand at ha; omega
  have hp : 0 < a.f1 := by unfold Cd Cand at ha; omega
  have c := cut_cross (top a * t.f1 - a.f1 * t.f0) t.f1 ht.1
  rw [h1] at c
  simp only [Int.mul_one] at c
  refine fr_cut_eq ht hp ?_
  grind
/-- From the second one's start on they meet where the lines cross. -/
theorem meet_high {a b : S25} (ha : Cd a) (hb : Cd b) (hs : a.f2 ≤ b.f2) {t : S28} (ht : Fr t) (h : Mb a b t = true) (hl : b.f2 * t.f1 ≤ t.f0) : (top a - top b) * t.f1 = (a.f1 - b.f1) * t.f0 := by
  obtain ⟨h1, h2, h3⟩ := Mb_len h
  have hab : a.f2 * t.f1 ≤ b.f2 * t.f1 := Int.mul_le_mul_of_nonneg_right hs (Int.le_of_lt ht.1)
  obtain ⟨l1, _⟩ := line ha ht (by omega) h2
  obtain ⟨l2, _⟩ := line hb ht hl (by rw [← h1]; exact h2)
  rw [l1, l2] at h1
  have := cut_inj ht.1 h1
  grind
theorem crs_eq {a b : S25} (hne : a.f1 ≠ b.f1) {t : S28} (ht : Fr t) (h : (top a - top b) * t.f1 = (a.f1 - b.f1) * t.f0) : t = crs a b := by
  unfold crs
  by_cases h1 : a.f1 - b.f1 < 0
  · rw [if_pos h1]
    exact fr_cut_eq ht (by omega) (by grind)
  · rw [if_neg h1]
    exact fr_cut_eq ht (by omega) (by grind)
theorem crs_comm (a b : S25) (hne : a.f1 ≠ b.f1) : crs a b = crs b a := by
  unfold crs
  by_cases h1 : a.f1 - b.f1 < 0
  · rw [if_pos h1, if_neg (by omega)]
    congr 1 <;> omega
  · rw [if_neg h1, if_pos (by omega)]
    congr 1 <;> omega
theorem meet_start {a b : S25} (ha : Cd a) (hb : Cd b) (hs : a.f2 ≤ b.f2) {t : S28} (ht : Fr t) (h : Mb a b t = true) : a.f2 * t.f1 ≤ t.f0 := by
  obtain ⟨h1, h2, h3⟩ := Mb_len h
  have hab : a.f2 * t.f1 ≤ b.f2 * t.f1 := Int.mul_le_mul_of_nonneg_right hs (Int.le_of_lt ht.1)
  rcases h3 with h3 | h3
  · exact burns_start h3
  · have := burns_start h3; omega
/-- One line: they meet when the second one starts. -/
theorem meet_same {a b : S25} (ha : Cd a) (hb : Cd b) (hs : a.f2 ≤ b.f2) (hr : a.f1 = b.f1) (ht : top a = top b) : Mb a b ⟨b.f2, 1⟩ = true := by
  have hf := fr_whole b.f2
  have h1 : a.f2 * 1 ≤ b.f2 := by omega
  have h2 : b.f2 * 1 ≤ b.f2 := by omega
  have hb' := hb
  unfold Cd Cand at hb'
  have z1 : b.f2 * a.f1 < top a * 1 := by rw [hr, ht]; unfold top; omega
  have z2 : b.f2 * b.f1 < top b * 1 := by unfold top; omega
  have l1 := len_at ha (u := 1) (by omega) h1
  have l2 := len_at hb (u := 1) (by omega) h2
  have z1' : b.f2 * a.f1 < (a.f2 * a.f1 + a.f0) * 1 := z1
  have z2' : b.f2 * b.f1 < (b.f2 * b.f1 + b.f0) * 1 := z2
  rw [if_pos z1'] at l1
  rw [if_pos z2'] at l2
  have e1 : (a.f0 + a.f1 * a.f2) * 1 - a.f1 * b.f2 = top a * 1 - a.f1 * b.f2 := by unfold top; grind
  have e2 : (b.f0 + b.f1 * b.f2) * 1 - b.f1 * b.f2 = top a * 1 - a.f1 * b.f2 := by rw [hr, ht]; unfold top; grind
  rw [e1] at l1
  rw [e2] at l2
  have bb : burnsAt b b.f2 1 = true := by
    have := burnsAt_iff2 hb (u := 1) (by omega) h2
    rw [show (⟨b.f0, b.f1, b.f2⟩ : S25) = b from rfl] at this
    rw [this, decide_eq_true z2']
  have hpos : 0 < (cut (top a * 1 - a.f1 * b.f2) 1).1 := by
    have := burn_pos (t := b.f2) (u := 1) (a := a.f0) (b := a.f1) (c := a.f2) z1'
    rw [e1] at this
    rw [cut_one]; exact this
  unfold Mb
  simp only [l1, l2, bb, Bool.or_true, Bool.and_true, beq_self_eq_true, Bool.true_and]
  exact decide_eq_true hpos
/-! ### The two lists -/
def implList (a b : S25) : List S28 :=
  let l1 := if ¬ lt ⟨b.f2, 1⟩ (lvl a b) ∧ Mb a b (lvl a b) = true then [lvl a b] else []
  if a.f1 = b.f1 then (if Mb a b ⟨b.f2, 1⟩ = true then (if has l1 ⟨b.f2, 1⟩ = true then l1 else l1 ++ [⟨b.f2, 1⟩]) ++ [fr (top a) a.f1] else l1)
  else if ¬ lt (crs a b) ⟨b.f2, 1⟩ ∧ Mb a b (crs a b) = true then (if has l1 (crs a b) = true then l1 else l1 ++ [crs a b]) else l1
def some1 (a b : S25) : List S28 := (if b.f0 ≥ a.f0 then [] else [lvl a b]) ++ (if a.f0 ≥ b.f0 then [] else [lvl b a]) ++ [⟨a.f2, 1⟩, ⟨b.f2, 1⟩]
def someC (a b : S25) : List S28 := some1 a b ++ (if a.f1 = b.f1 then [] else if 0 ≤ (if a.f1 - b.f1 < 0 then -(top a - top b) else top a - top b) then [crs a b] else [])
def pick (a b : S25) (l o : List S28) : List S28 := l.foldl (fun o t => if Mb a b t = true then ins o t else o) o
def specList (a b : S25) : List S28 :=
  let o := pick a b (someC a b) []
  if a.f1 = b.f1 ∧ top a = top b then ins (o.take 1) (fr (top a) a.f1) else o
theorem lvl_bd {a b : S25} (ha : Cd a) (hb : Cd b) : Bd (lvl a b) ∧ Fr (lvl a b) := by
  have h1 := top_bd ha
  unfold Cd Cand at ha hb
  exact ⟨fr_bd (by omega) (by omega) (by omega), fr_cut (by omega)⟩
theorem crs_bd {a b : S25} (ha : Cd a) (hb : Cd b) (hne : a.f1 ≠ b.f1) : Bd (crs a b) ∧ Fr (crs a b) := by
  have h1 := top_bd ha
  have h2 := top_bd hb
  unfold Cd Cand at ha hb
  unfold crs
  split
  · exact ⟨fr_bd (by omega) (by omega) (by omega), fr_cut (by omega)⟩
  · exact ⟨fr_bd (by omega) (by omega) (by omega), fr_cut (by omega)⟩
theorem start_bd {a : S25} (ha : Cd a) : Bd ⟨a.f2, 1⟩ ∧ Fr ⟨a.f2, 1⟩ := by
  unfold Cd Cand at ha
  exact ⟨⟨by show a.f2.natAbs ≤ 100000; omega, by show (1 : Int) ≤ 1; omega, by show (1 : Int) ≤ 100000; omega⟩, fr_whole _⟩
theorem fr_nonneg {a b : Int} (hb : 0 < b) (ha : 0 ≤ a) : 0 ≤ (fr a b).f0 := cut_nonneg hb ha
theorem some_ok {a b : S25} (ha : Cd a) (hb : Cd b) : ∀ x, x ∈ someC a b → Bd x ∧ Fr x ∧ 0 ≤ x.f0 := by
  intro x hx
  have ta := top_bd ha
  have tb := top_bd hb
  have ha' := ha
  have hb' := hb
  unfold Cd Cand at ha' hb'
  have l1 := lvl_bd ha hb
  have l2 := lvl_bd hb ha
  have s1 := start_bd ha
  have s2 := start_bd hb
  have m1 := mul_bd (a := a.f2) (b := a.f1) (A := 99) (B := 12) (by omega) (by omega) (by omega) (by omega)
  have m2 := mul_bd (a := b.f2) (b := b.f1) (A := 99) (B := 12) (by omega) (by omega) (by omega) (by omega)
  have n1 : b.f0 ≤ a.f0 → 0 ≤ (lvl a b).f0 := fun h => fr_nonneg (by omega) (by unfold top; omega)
  have n2 : a.f0 ≤ b.f0 → 0 ≤ (lvl b a).f0 := fun h => fr_nonneg (by omega) (by unfold top; omega)
  unfold someC some1 at hx
  rcases List.mem_append.1 hx with hx | hx
  · rcases List.mem_append.1 hx with hx | hx
    · rcases List.mem_append.1 hx with hx | hx
      · split at hx
        · simp at hx
        · rw [List.mem_singleton.1 hx]; exact ⟨l1.1, l1.2, n1 (by omega)⟩
      · split at hx
        · simp at hx
        · rw [List.mem_singleton.1 hx]; exact ⟨l2.1, l2.2, n2 (by omega)⟩
    · simp only [List.mem_cons, List.not_mem_nil, or_false] at hx
      rcases hx with rfl | rfl
      · exact ⟨s1.1, s1.2, ha'.2.2.1⟩
      · exact ⟨s2.1, s2.2, hb'.2.2.1⟩
  · by_cases hne : a.f1 = b.f1
    · rw [if_pos hne] at hx; simp at hx
    · rw [if_neg hne] at hx
      by_cases h0 : 0 ≤ (if a.f1 - b.f1 < 0 then -(top a - top b) else top a - top b)
      · rw [if_pos h0] at hx
        rw [List.mem_singleton.1 hx]
        have c := crs_bd ha hb hne
        refine ⟨c.1, c.2, ?_⟩
        unfold crs
        by_cases h1 : a.f1 - b.f1 < 0
        · rw [if_pos h1] at h0 ⊢; exact fr_nonneg (by omega) h0
        · rw [if_neg h1] at h0 ⊢; exact fr_nonneg (by omega) h0
      · rw [if_neg h0] at hx; simp at hx
theorem pick_mem {a b : S25} : ∀ {l o : List S28} {x : S28}, x ∈ pick a b l o ↔ x ∈ o ∨ (x ∈ l ∧ Mb a b x = true)
  | [], o, x => by simp [pick]
  | t :: l, o, x => by
    have ih := @pick_mem a b l (if Mb a b t = true then ins o t else o) x
    unfold pick at ih ⊢
    rw [List.foldl_cons, ih]
    by_cases h : Mb a b t = true
    · rw [if_pos h, ins_mem, List.mem_cons]
      constructor
      · rintro ((rfl | h1) | h1)
        · exact Or.inr ⟨Or.inl rfl, h⟩
        · exact Or.inl h1
        · exact Or.inr ⟨Or.inr h1.1, h1.2⟩
      · rintro (h1 | ⟨rfl | h1, h2⟩)
        · exact Or.inl (Or.inr h1)
        · exact Or.inl (Or.inl rfl)
        · exact Or.inr ⟨h1, h2⟩
    · rw [if_neg h, List.mem_cons]
      constructor
      · rintro (h1 | h1)
        · exact Or.inl h1
        · exact Or.inr ⟨Or.inr h1.1, h1.2⟩
      · rintro (h1 | ⟨rfl | h1, h2⟩)
        · exact Or.inl h1
        · exact absurd h2 h
        · exact Or.inr ⟨h1, h2⟩
theorem pick_srt {a b : S25} : ∀ {l o : List S28}, (∀ x, x ∈ l → Fr x) → Srt o → (∀ x, x ∈ o → Fr x) → Srt (pick a b l o)
  | [], o, _, h, _ => h
  | t :: l, o, hl, h, ho => by
    have hl2 : ∀ x, x ∈ l → Fr x := fun x hx => hl x (List.mem_cons_of_mem _ hx)
    have ht := hl t (List.mem_cons_self ..)
    show Srt (pick a b l (if Mb a b t = true then ins o t else o))
    by_cases h1 : Mb a b t = true
    · rw [if_pos h1]; exact pick_srt hl2 (ins_srt h ho ht) (ins_fr ho ht)
    · rw [if_neg h1]; exact pick_srt hl2 h ho
theorem nlt {x y : S28} : ¬ lt x y ↔ y.f0 * x.f1 ≤ x.f0 * y.f1 := by unfold lt; omega
/-- The program's list is in order, and what it holds. -/
theorem implList_ne {a b : S25} (ha : Cd a) (hb : Cd b) (hs : a.f2 ≤ b.f2) (hne : a.f1 ≠ b.f1) : Srt (implList a b) ∧ ∀ x, x ∈ implList a b ↔ (Mb a b x = true ∧ ((x = lvl a b ∧ ¬ lt ⟨b.f2, 1⟩ x) ∨ (x = crs a b ∧ ¬ lt x ⟨b.f2, 1⟩))) := by
  have l1 := lvl_bd ha hb
  have c1 := crs_bd ha hb hne
  unfold implList
  simp only [if_neg hne]
  by_cases h1 : ¬ lt ⟨b.f2, 1⟩ (lvl a b) ∧ Mb a b (lvl a b) = true
  · rw [if_pos h1]
    by_cases h2 : ¬ lt (crs a b) ⟨b.f2, 1⟩ ∧ Mb a b (crs a b) = true
    · rw [if_pos h2]
      by_cases h3 : has [lvl a b] (crs a b) = true
      · rw [if_pos h3]
        have e := List.mem_singleton.1 ((has_iff _ _).1 h3)
        refine ⟨List.pairwise_singleton _ _, fun x => ?_⟩
        rw [List.mem_singleton, e]
        constructor
        · rintro rfl; exact ⟨h1.2, Or.inl ⟨rfl, h1.1⟩⟩
        · rintro ⟨_, ⟨h, _⟩ | ⟨h, _⟩⟩ <;> exact h
      · rw [if_neg h3]
        have hn : lvl a b ≠ crs a b := fun e => h3 ((has_iff _ _).2 (by rw [e]; exact List.mem_singleton.2 rfl))
        have hlt : lt (lvl a b) (crs a b) := by
          have g1 := nlt.1 h1.1
          have g2 := nlt.1 h2.1
          have hle := le_trans_ (x := lvl a b) (y := ⟨b.f2, 1⟩) (z := crs a b) l1.2.1 (by show (0 : Int) < 1; omega) c1.2.1 g1 g2
          unfold lt
          rcases Int.lt_or_le ((lvl a b).f0 * (crs a b).f1) ((crs a b).f0 * (lvl a b).f1) with h | h
          · exact h
          · exact absurd (fr_eq l1.2 c1.2 (by omega)) hn
        refine ⟨?_, fun x => ?_⟩
        · show List.Pairwise lt [lvl a b, crs a b]
          exact List.pairwise_cons.2 ⟨fun z hz => by rw [List.mem_singleton.1 hz]; exact hlt, List.pairwise_singleton _ _⟩
        · simp only [List.mem_append, List.mem_singleton]
          constructor
          · rintro (rfl | rfl)
            · exact ⟨h1.2, Or.inl ⟨rfl, h1.1⟩⟩
            · exact ⟨h2.2, Or.inr ⟨rfl, h2.1⟩⟩
          · rintro ⟨_, ⟨h, _⟩ | ⟨h, _⟩⟩
            · exact Or.inl h
            · exact Or.inr h
    · rw [if_neg h2]
      refine ⟨List.pairwise_singleton _ _, fun x => ?_⟩
      rw [List.mem_singleton]
      constructor
      · rintro rfl; exact ⟨h1.2, Or.inl ⟨rfl, h1.1⟩⟩
      · rintro ⟨hm, ⟨h, _⟩ | ⟨h, h5⟩⟩
        · exact h
        · subst h; exact absurd ⟨h5, hm⟩ h2
  · rw [if_neg h1]
    by_cases h2 : ¬ lt (crs a b) ⟨b.f2, 1⟩ ∧ Mb a b (crs a b) = true
    · rw [if_pos h2, if_neg (by simp [has])]
      refine ⟨List.pairwise_singleton _ _, fun x => ?_⟩
      simp only [List.nil_append, List.mem_singleton]
      constructor
      · rintro rfl; exact ⟨h2.2, Or.inr ⟨rfl, h2.1⟩⟩
      · rintro ⟨hm, ⟨h, h5⟩ | ⟨h, h5⟩⟩
        · subst h; exact absurd ⟨h5, hm⟩ h1
        · exact h
    · rw [if_neg h2]
      refine ⟨List.Pairwise.nil, fun x => ?_⟩
      constructor
      · intro h; simp at h
      · rintro ⟨hm, ⟨h, h5⟩ | ⟨h, h5⟩⟩
        · subst h; exact absurd ⟨h5, hm⟩ h1
        · subst h; exact absurd ⟨h5, hm⟩ h2
/-- What meets is among the reference's times. -/
theorem some_has {a b : S25} (ha : Cd a) (hb : Cd b) (hs : a.f2 ≤ b.f2) (u v : S25) (huv : (u = a ∧ v = b) ∨ (u = b ∧ v = a)) {x : S28} (hm : Mb a b x = true) (hx : Fr x) (h : (x = lvl a b) ∨ (a.f1 ≠ b.f1 ∧ x = crs a b ∧ ¬ lt x ⟨b.f2, 1⟩)) : x ∈ someC u v := by
  have ha' := ha
  have hb' := hb
  unfold Cd Cand at ha' hb'
  rcases h with rfl | ⟨hne, rfl, hlo⟩
  · rcases Int.lt_trichotomy b.f0 a.f0 with h1 | h1 | h1
    · rcases huv with ⟨rfl, rfl⟩ | ⟨rfl, rfl⟩
      · unfold someC some1
        rw [if_neg (show ¬ v.f0 ≥ u.f0 by omega)]
        simp
      · unfold someC some1
        rw [if_neg (show ¬ u.f0 ≥ v.f0 by omega)]
        simp
    · have e : lvl a b = ⟨a.f2, 1⟩ := by
        refine (fr_cut_eq (fr_whole a.f2) (by omega) ?_).symm
        show a.f2 * a.f1 = (top a - b.f0) * 1
        unfold top; omega
      rw [e]
      rcases huv with ⟨rfl, rfl⟩ | ⟨rfl, rfl⟩ <;> (unfold someC some1; simp)
    · have hst := meet_start ha hb hs hx hm
      have hc := cut_cross (top a - b.f0) a.f1 (by omega)
      have hp : 0 < (lvl a b).f1 := hx.1
      have e : (lvl a b).f0 * a.f1 = (top a - b.f0) * (lvl a b).f1 := hc
      have h5 : a.f2 * (lvl a b).f1 * a.f1 ≤ (lvl a b).f0 * a.f1 := Int.mul_le_mul_of_nonneg_right hst (by omega)
      rw [e] at h5
      have h6 : (a.f0 - b.f0) * (lvl a b).f1 < 0 := Int.mul_neg_of_neg_of_pos (by omega) hp
      have h7 : (top a - b.f0) * (lvl a b).f1 = a.f2 * (lvl a b).f1 * a.f1 + (a.f0 - b.f0) * (lvl a b).f1 := by unfold top; grind
      omega
  · have g := nlt.1 hlo
    simp only [Int.mul_one] at g
    have hp : 0 < (crs a b).f1 := hx.1
    have h0 : 0 ≤ (crs a b).f0 := by
      have := Int.mul_nonneg hb'.2.2.1 (Int.le_of_lt hp)
      omega
    have key : 0 ≤ (if a.f1 - b.f1 < 0 then -(top a - top b) else top a - top b) := by
      unfold crs at h0
      split at h0
      · rename_i h1
        rw [if_pos h1]
        have c := cut_cross (-(top a - top b)) (-(a.f1 - b.f1)) (by omega)
        have c2 := cut_pos (a := -(top a - top b)) (b := -(a.f1 - b.f1)) (by omega)
        have h0' : 0 ≤ (cut (-(top a - top b)) (-(a.f1 - b.f1))).1 := h0
        have := Int.mul_nonneg h0' (show (0 : Int) ≤ -(a.f1 - b.f1) by omega)
        rw [c] at this
        rcases Int.lt_or_le (-(top a - top b)) 0 with h | h
        · have := Int.mul_neg_of_neg_of_pos h c2; omega
        · exact h
      · rename_i h1
        rw [if_neg h1]
        have c := cut_cross (top a - top b) (a.f1 - b.f1) (by omega)
        have c2 := cut_pos (a := top a - top b) (b := a.f1 - b.f1) (by omega)
        have h0' : 0 ≤ (cut (top a - top b) (a.f1 - b.f1)).1 := h0
        have := Int.mul_nonneg h0' (show (0 : Int) ≤ a.f1 - b.f1 by omega)
        rw [c] at this
        rcases Int.lt_or_le (top a - top b) 0 with h | h
        · have := Int.mul_neg_of_neg_of_pos h c2; omega
        · exact h
    rcases huv with ⟨rfl, rfl⟩ | ⟨rfl, rfl⟩
    · unfold someC
      rw [if_neg hne, if_pos key]; simp
    · unfold someC
      have key2 : 0 ≤ (if u.f1 - v.f1 < 0 then -(top u - top v) else top u - top v) := by
        by_cases h1 : v.f1 - u.f1 < 0
        · rw [if_pos h1] at key; rw [if_neg (by omega)]; omega
        · rw [if_neg h1] at key; rw [if_pos (by omega)]; omega
      rw [if_neg (fun h => hne h.symm), if_pos key2, crs_comm v u hne]; simp
theorem Mb_uv {a b u v : S25} (huv : (u = a ∧ v = b) ∨ (u = b ∧ v = a)) (t : S28) : Mb u v t = Mb a b t := by
  rcases huv with ⟨rfl, rfl⟩ | ⟨rfl, rfl⟩
  · rfl
  · exact Mb_comm _ _ _
theorem le_dec (x : S28) (n : Int) : x.f0 < n * x.f1 ∨ n * x.f1 ≤ x.f0 := by omega
theorem lists_eq {a b : S25} (ha : Cd a) (hb : Cd b) (hs : a.f2 ≤ b.f2) (u v : S25) (huv : (u = a ∧ v = b) ∨ (u = b ∧ v = a)) : specList u v = implList a b := by
  have hu : Cd u := by rcases huv with ⟨rfl, rfl⟩ | ⟨rfl, rfl⟩ <;> assumption
  have hv : Cd v := by rcases huv with ⟨rfl, rfl⟩ | ⟨rfl, rfl⟩ <;> assumption
  have ha' := ha
  have hb' := hb
  unfold Cd Cand at ha' hb'
  have ok := some_ok hu hv
  have os : Srt (pick u v (someC u v) []) := pick_srt (fun x hx => (ok x hx).2.1) List.Pairwise.nil (fun x hx => by simp at hx)
  have om : ∀ x, x ∈ pick u v (someC u v) [] ↔ (x ∈ someC u v ∧ Mb a b x = true) := by
    intro x
    rw [pick_mem, Mb_uv huv]
    simp
  have l1 := lvl_bd ha hb
  unfold specList
  by_cases hne : a.f1 = b.f1
  · have hne2 : u.f1 = v.f1 := by rcases huv with ⟨rfl, rfl⟩ | ⟨rfl, rfl⟩ <;> simp [hne]
    have high : ∀ {x : S28}, Fr x → Mb a b x = true → b.f2 * x.f1 ≤ x.f0 → top a = top b := by
      intro x hx hm hl
      have := meet_high ha hb hs hx hm hl
      rw [hne, Int.sub_self, Int.zero_mul] at this
      rcases Int.mul_eq_zero.1 this with h | h
      · omega
      · have := hx.1; omega
    by_cases htp : top a = top b
    · have hto : top u = top v := by rcases huv with ⟨rfl, rfl⟩ | ⟨rfl, rfl⟩ <;> simp [htp]
      have elv : lvl a b = ⟨b.f2, 1⟩ := by
        refine (fr_cut_eq (fr_whole b.f2) (by omega) ?_).symm
        show b.f2 * a.f1 = (top a - b.f0) * 1
        rw [htp, hne]; unfold top; omega
      have hm := meet_same ha hb hs hne htp
      have hbelow : lt ⟨b.f2, 1⟩ (fr (top a) a.f1) := by
        show b.f2 * (fr (top a) a.f1).f1 < (fr (top a) a.f1).f0 * 1
        rw [Int.mul_one]
        have h1 : (fr (top a) a.f1).f0 * a.f1 = top a * (fr (top a) a.f1).f1 := cut_cross (top a) a.f1 (by omega)
        have h2 : 0 < (fr (top a) a.f1).f1 := cut_pos (by omega)
        have h3 : b.f2 * a.f1 < top a := by rw [htp, hne]; unfold top; omega
        have h4 := Int.mul_lt_mul_of_pos_right h3 h2
        rw [← h1] at h4
        have h5 : b.f2 * (fr (top a) a.f1).f1 * a.f1 < (fr (top a) a.f1).f0 * a.f1 := by
          have : b.f2 * (fr (top a) a.f1).f1 * a.f1 = b.f2 * a.f1 * (fr (top a) a.f1).f1 := by grind
          omega
        exact Int.lt_of_mul_lt_mul_right h5 (by omega)
      have eo : pick u v (someC u v) [] = [⟨b.f2, 1⟩] := by
        refine srt_ext os (List.pairwise_singleton _ _) (fun x => ?_)
        rw [om, List.mem_singleton]
        constructor
        · rintro ⟨hx, hmx⟩
          obtain ⟨_, hfx, _⟩ := ok x hx
          have cases_ : x = lvl a b ∨ x = lvl b a ∧ a.f0 < b.f0 ∨ x = ⟨a.f2, 1⟩ ∨ x = ⟨b.f2, 1⟩ := by
            have hx2 := hx
            unfold someC some1 at hx2
            rw [if_pos hne2, List.append_nil] at hx2
            rcases huv with ⟨rfl, rfl⟩ | ⟨rfl, rfl⟩
            · rcases List.mem_append.1 hx2 with hx2 | hx2
              · rcases List.mem_append.1 hx2 with hx2 | hx2
                · split at hx2
                  · simp at hx2
                  · exact Or.inl (List.mem_singleton.1 hx2)
                · split at hx2
                  · simp at hx2
                  · exact Or.inr (Or.inl ⟨List.mem_singleton.1 hx2, by omega⟩)
              · simp only [List.mem_cons, List.not_mem_nil, or_false] at hx2
                exact Or.inr (Or.inr hx2)
            · rcases List.mem_append.1 hx2 with hx2 | hx2
              · rcases List.mem_append.1 hx2 with hx2 | hx2
                · split at hx2
                  · simp at hx2
                  · exact Or.inr (Or.inl ⟨List.mem_singleton.1 hx2, by omega⟩)
                · split at hx2
                  · simp at hx2
                  · exact Or.inl (List.mem_singleton.1 hx2)
              · simp only [List.mem_cons, List.not_mem_nil, or_false] at hx2
                rcases hx2 with h | h
                · exact Or.inr (Or.inr (Or.inr h))
                · exact Or.inr (Or.inr (Or.inl h))
          rcases cases_ with h | ⟨_, h⟩ | h | h
          · rw [h, elv]
          · have hle : a.f2 * b.f1 ≤ b.f2 * b.f1 := Int.mul_le_mul_of_nonneg_right hs (by omega)
            unfold top at htp
            rw [hne] at htp
            omega
          · subst h
            have hle := meet_low ha hb hs hfx hmx
            rcases Int.lt_or_le a.f2 b.f2 with h5 | h5
            · have := hle (by show a.f2 < b.f2 * 1; omega)
              rw [this, elv]
            · have : a.f2 = b.f2 := by omega
              rw [this]
          · exact h
        · rintro rfl
          refine ⟨?_, hm⟩
          have := some_has ha hb hs u v huv (x := ⟨b.f2, 1⟩) hm (fr_whole _) (Or.inl elv.symm)
          exact this
      have hcd : u.f1 = v.f1 ∧ top u = top v := ⟨hne2, hto⟩
      simp only [if_pos hcd, eo]
      have eout : fr (top u) u.f1 = fr (top a) a.f1 := by rcases huv with ⟨rfl, rfl⟩ | ⟨rfl, rfl⟩ <;> simp [htp, hne]
      rw [eout]
      unfold implList
      simp only [if_pos hne, elv, hm, and_true, if_true]
      rw [if_pos (lt_irrefl _), if_pos (by simp [has])]
      show ins [⟨b.f2, 1⟩] (fr (top a) a.f1) = _
      rw [ins_lt hbelow]; rfl
    · have hto : ¬ top u = top v := by
        rcases huv with ⟨rfl, rfl⟩ | ⟨rfl, rfl⟩
        · exact htp
        · exact fun h => htp h.symm
      simp only [if_neg (fun h : u.f1 = v.f1 ∧ top u = top v => hto h.2)]
      have hno : ¬ Mb a b ⟨b.f2, 1⟩ = true := fun h => htp (high (fr_whole _) h (by show b.f2 * 1 ≤ b.f2; omega))
      unfold implList
      simp only [if_pos hne, if_neg hno]
      have e : ∀ x, (x ∈ pick u v (someC u v) [] ↔ x = lvl a b ∧ Mb a b x = true) := by
        intro x
        rw [om]
        constructor
        · rintro ⟨hx, hmx⟩
          obtain ⟨_, hfx, _⟩ := ok x hx
          rcases le_dec x b.f2 with h | h
          · exact ⟨meet_low ha hb hs hfx hmx h, hmx⟩
          · exact absurd (high hfx hmx h) htp
        · rintro ⟨rfl, hmx⟩
          exact ⟨some_has ha hb hs u v huv hmx l1.2 (Or.inl rfl), hmx⟩
      by_cases hml : Mb a b (lvl a b) = true
      · have hlow : ¬ lt ⟨b.f2, 1⟩ (lvl a b) := by
          rcases le_dec (lvl a b) b.f2 with h | h
          · rw [nlt]; show (lvl a b).f0 * 1 ≤ b.f2 * (lvl a b).f1; omega
          · exact absurd (high l1.2 hml h) htp
        rw [if_pos ⟨hlow, hml⟩]
        refine srt_ext os (List.pairwise_singleton _ _) (fun x => ?_)
        rw [e, List.mem_singleton]
        constructor
        · exact fun h => h.1
        · rintro rfl; exact ⟨rfl, hml⟩
      · rw [if_neg (fun h => hml h.2)]
        refine srt_ext os List.Pairwise.nil (fun x => ?_)
        rw [e]
        constructor
        · rintro ⟨rfl, h⟩; exact absurd h hml
        · intro h; simp at h
  · have hne2 : ¬ u.f1 = v.f1 := by
      rcases huv with ⟨rfl, rfl⟩ | ⟨rfl, rfl⟩
      · exact hne
      · exact fun h => hne h.symm
    simp only [if_neg (fun h : u.f1 = v.f1 ∧ top u = top v => hne2 h.1)]
    obtain ⟨is, im⟩ := implList_ne ha hb hs hne
    refine srt_ext os is (fun x => ?_)
    rw [om, im]
    constructor
    · rintro ⟨hx, hmx⟩
      obtain ⟨_, hfx, _⟩ := ok x hx
      refine ⟨hmx, ?_⟩
      rcases le_dec x b.f2 with h | h
      · have e := meet_low ha hb hs hfx hmx h
        refine Or.inl ⟨e, ?_⟩
        rw [nlt]; show x.f0 * 1 ≤ b.f2 * x.f1; omega
      · have e := crs_eq hne hfx (meet_high ha hb hs hfx hmx h)
        refine Or.inr ⟨e, ?_⟩
        rw [nlt]; show b.f2 * x.f1 ≤ x.f0 * 1; omega
    · rintro ⟨hmx, ⟨h, h2⟩ | ⟨h, h2⟩⟩
      · refine ⟨some_has ha hb hs u v huv hmx (h ▸ l1.2) (Or.inl h), hmx⟩
      · refine ⟨some_has ha hb hs u v huv hmx (h ▸ (crs_bd ha hb hne).2) (Or.inr ⟨hne, h, h2⟩), hmx⟩
end Go.Proofs.Ytkefphfjeodgnaa.Pure
