/- MeetingsOf: the program's list of times is the reference's, for all candles. Conditions: none. -/
import Derived.Test.YtkefphfjeodgnaaVMeetingsMeets
import Derived.Test.YtkefphfjeodgnaaVMeetingsPureFnExactTimeOf
set_option linter.unusedVariables false
set_option linter.unusedSimpArgs false
namespace Go.Proofs.Ytkefphfjeodgnaa.Pure
open Go.RowKit Go.Proofs.Ytkefphfjeodgnaa.PA Go.Proofs.Ytkefphfjeodgnaa.PL Go.Proofs.YtkefphfjeodgnaaW.PrintWords Go.Proofs.YtkefphfjeodgnaaW.PrintLast Go.Proofs.YtkefphfjeodgnaaW.PrintMore
theorem top_eq (x : S25) : x.f0 + x.f1 * x.f2 = top x := by unfold top; grind
theorem mul12 {x : S25} (h : Cd x) : 0 ≤ x.f1 * x.f2 ∧ x.f1 * x.f2 ≤ 1188 := by
  unfold Cd Cand at h
  exact mul_bd (a := x.f1) (b := x.f2) (A := 12) (B := 99) (by omega) (by omega) (by omega) (by omega)
theorem w_top {x : S25} (h : Cd x) : wrap64 (x.f0 + wrap64 (x.f1 * x.f2)) = top x := by
  have m := mul12 h
  have h' := h
  unfold Cd Cand at h'
  rw [w64 (n := x.f1 * x.f2) (by omega) (by omega), w64 (by omega) (by omega), top_eq]
theorem w_top2 {a b : S25} (ha : Cd a) (hb : Cd b) : wrap64 (wrap64 (wrap64 (a.f0 + wrap64 (a.f1 * a.f2)) - b.f0) - wrap64 (b.f1 * b.f2)) = top a - top b := by
  have m := mul12 hb
  have t := top_bd ha
  have hb' := hb
  unfold Cd Cand at hb'
  have e := top_eq b
  rw [w_top ha, w64 (n := b.f1 * b.f2) (by omega) (by omega), w64 (n := top a - b.f0) (by omega) (by omega), w64 (by omega) (by omega), ← e]
  omega
/-! ### The program -/
theorem addM_ok {k : Nat} (hk : BIG ≤ k) {a b : S25} (ha : Cd a) (hb : Cd b) {l : List S28} (hl : l.length ≤ 100) {t : S28} (ht : Bd t) (hf : Fr t) :
    addM k a.f0 a.f1 a.f2 b.f0 b.f1 b.f2 l t.f0 t.f1 = some (if Mb a b t = true then (if has l t = true then l else l ++ [t]) else l) := by
  have hb0 : 1000 ≤ BIG := big_pos2
  unfold addM
  rw [implMeet hk ha hb ht hf, Option.bind_some]
  by_cases h : Mb a b t = true
  · rw [if_pos h, if_pos h, contains_ok (by omega) (by omega), Option.bind_some]
    by_cases h2 : has l t = true
    · rw [if_pos h2, if_pos h2]
    · rw [if_neg h2, if_neg h2, if_pos (by omega)]
  · rw [if_neg h, if_neg h]
theorem lvl_ok {k : Nat} (hk : BIG ≤ k) {a b : S25} (ha : Cd a) (hb : Cd b) : ((impl_over.f k (wrap64 (a.f0 - b.f0)) a.f1).bind fun y => impl_plus.f k a.f2 1 y.1 y.2) = some ((lvl a b).f0, (lvl a b).f1) := by
  have ha' := ha
  have hb' := hb
  unfold Cd Cand at ha' hb'
  have p1 := cut_pos (a := a.f0 - b.f0) (b := a.f1) (by omega)
  have p2 := cut_le (a.f0 - b.f0) a.f1 (by omega)
  have p3 := cut_abs (a.f0 - b.f0) a.f1 (by omega)
  have e := cut_plus (a := a.f0 - b.f0) (b := a.f1) (c := a.f2) (by omega)
  have m1 := mul_bd (a := a.f2) (b := (cut (a.f0 - b.f0) a.f1).2) (A := 99) (B := 12) (by omega) (by omega) (by omega) (by omega)
  rw [w64 (by omega) (by omega), over_ok hk (by omega) (by omega) (by omega), Option.bind_some, implPlus_ok hk (A := 1188) (B := 200) (C := 12) (sm (by omega) (by omega)) (sm (by omega) (by omega)) (sm (by omega) (by omega)) (by omega) (by omega) (by omega)]
  rw [Int.mul_one, Int.one_mul, e]
  unfold lvl fr
  have : a.f2 * a.f1 + (a.f0 - b.f0) = top a - b.f0 := by unfold top; omega
  rw [this]
theorem crs_ok {k : Nat} (hk : BIG ≤ k) {a b : S25} (ha : Cd a) (hb : Cd b) (hne : a.f1 ≠ b.f1) : impl_over.f k (wrap64 (wrap64 (wrap64 (a.f0 + wrap64 (a.f1 * a.f2)) - b.f0) - wrap64 (b.f1 * b.f2))) (wrap64 (a.f1 - b.f1)) = some ((crs a b).f0, (crs a b).f1) := by
  have t1 := top_bd ha
  have t2 := top_bd hb
  rw [w_top2 ha hb]
  unfold Cd Cand at ha hb
  rw [w64 (n := a.f1 - b.f1) (by omega) (by omega), overN_ok2 hk (by omega) (by omega) (by omega)]
  unfold crs fr
  split <;> rfl
theorem implM_ok {k : Nat} (hk : BIG ≤ k) {a b : S25} (ha : Cd a) (hb : Cd b) : meetQ k a.f0 a.f1 a.f2 b.f0 b.f1 b.f2 = some (implList a b) := by
  have l1 := lvl_bd ha hb
  have s1 := start_bd hb
  have ta := top_bd ha
  have ha' := ha
  unfold Cd Cand at ha'
  unfold meetQ impl_whole.f
  simp only [Option.bind_some]
  have h1 := lvl_ok hk ha hb
  obtain ⟨y, hy, h2⟩ := Option.bind_eq_some_iff.mp h1
  rw [hy, Option.bind_some, h2, Option.bind_some, (bd_less s1.1 l1.1).2, Option.bind_some]
  have e1 : (if decide (lt ⟨b.f2, 1⟩ (lvl a b)) = true then some [] else addM k a.f0 a.f1 a.f2 b.f0 b.f1 b.f2 [] (lvl a b).f0 (lvl a b).f1) = some (if ¬ lt ⟨b.f2, 1⟩ (lvl a b) ∧ Mb a b (lvl a b) = true then [lvl a b] else []) := by
    by_cases h : lt ⟨b.f2, 1⟩ (lvl a b)
    · rw [if_pos (decide_eq_true h), if_neg (fun g => g.1 h)]
    · rw [if_neg (by simpa using h), addM_ok hk ha hb (by simp) l1.1 l1.2]
      by_cases h3 : Mb a b (lvl a b) = true
      · have g : ¬ lt ⟨b.f2, 1⟩ (lvl a b) ∧ Mb a b (lvl a b) = true := ⟨h, h3⟩
        rw [if_pos h3, if_pos g, if_neg (by simp [has])]; rfl
      · rw [if_neg h3, if_neg (fun g => h3 g.2)]
  rw [e1, Option.bind_some]
  have hlen : (if ¬ lt ⟨b.f2, 1⟩ (lvl a b) ∧ Mb a b (lvl a b) = true then [lvl a b] else []).length ≤ 1 := by split <;> simp
  unfold implList
  simp only
  generalize (if ¬ lt ⟨b.f2, 1⟩ (lvl a b) ∧ Mb a b (lvl a b) = true then [lvl a b] else []) = o at hlen ⊢
  unfold meetR impl_whole.f
  simp only [Option.bind_some]
  by_cases hne : a.f1 = b.f1
  · rw [if_pos hne, if_pos hne, implMeet hk ha hb (t := ⟨b.f2, 1⟩) s1.1 s1.2, Option.bind_some]
    by_cases h3 : Mb a b ⟨b.f2, 1⟩ = true
    · rw [if_pos h3, if_pos h3, addM_ok hk ha hb (t := ⟨b.f2, 1⟩) (by omega) s1.1 s1.2, Option.bind_some, if_pos h3, implOut_ok hk ha, Option.bind_some]
      have hl2 : (if has o ⟨b.f2, 1⟩ = true then o else o ++ [⟨b.f2, 1⟩]).length ≤ 2 := by split <;> (try simp only [List.length_append, List.length_singleton]) <;> omega
      rw [if_pos (by omega)]
      rfl
    · rw [if_neg h3, if_neg h3]
  · have c := crs_bd ha hb hne
    rw [if_neg hne, if_neg hne, crs_ok hk ha hb hne, Option.bind_some]
    simp only
    rw [(bd_less c.1 s1.1).2, Option.bind_some]
    by_cases h3 : lt (crs a b) ⟨b.f2, 1⟩
    · rw [if_pos (decide_eq_true h3), if_neg (fun g => g.1 h3)]
    · rw [if_neg (by simpa using h3), addM_ok hk ha hb (by omega) c.1 c.2]
      by_cases h4 : Mb a b (crs a b) = true
      · have g : ¬ lt (crs a b) ⟨b.f2, 1⟩ ∧ Mb a b (crs a b) = true := ⟨h3, h4⟩
        rw [if_pos h4, if_pos g]
      · rw [if_neg h4, if_neg (fun g => h4 g.2)]
/-! ### The reference -/
theorem specLevel_ok {k : Nat} (hk : BIG ≤ k) {a b : S25} (ha : Cd a) (hb : Cd b) : spec_l7Level.f (k + 1) a.f0 a.f1 a.f2 b.f0 b.f1 b.f2 = some (if b.f0 ≥ a.f0 then [] else [lvl a b]) := by
  unfold spec_l7Level.f
  by_cases h : b.f0 ≥ a.f0
  · rw [if_pos h, if_pos h]
  · rw [if_neg h, if_neg h]
    have hb' := hb
    have ha' := ha
    unfold Cd Cand at hb' ha'
    have hm : Mom b.f0 1 := ⟨by omega, by omega, Int.gcd_one_right _⟩
    have hc : Cand a.f0 a.f1 a.f2 := ha
    unfold spec_TimeOf.f
    simp only [cand_ok, Option.bind_some, specTime_ok (Nat.le_succ_of_le hk), hm, hc, decide_true, if_true]
    rw [specLess_ok (A := 99) (B := 99) (sm (by omega) (by omega)) (sm (by omega) (by omega)) (by omega) (by omega), Option.bind_some]
    have h2 : b.f0 * 1 < a.f0 * 1 := by omega
    rw [decide_eq_true h2]
    rw [show (!true) = false from rfl, specTimeOf_ok hk hc hm h2, Option.bind_some]
    unfold timeOf lvl fr
    have e := cut_plus (a := a.f0 * 1 - b.f0) (b := 1 * a.f1) (c := a.f2) (by omega)
    rw [e]
    have e2 : a.f2 * (1 * a.f1) + (a.f0 * 1 - b.f0) = top a - b.f0 := by unfold top; rw [Int.one_mul]; omega
    rw [e2, Int.one_mul]
def fin (a b : S25) (o : List S28) : List S28 := if a.f1 = b.f1 ∧ top a = top b then ins (o.take 1) (fr (top a) a.f1) else o
theorem j3_ok {k : Nat} (hk : BIG ≤ k) {a : S25} (ha : Cd a) {o : List S28} (hl : o.length ≤ 100) (ho : ∀ x, x ∈ o → Bd x ∧ Fr x) (c : Bool) :
    spec_MeetingsOf.j4 (k + 1) o c a.f0 a.f1 a.f2 = some (if c = true then ins (o.take 1) (fr (top a) a.f1) else o, true) := by
  have hb0 : 1000 ≤ BIG := big_pos2
  simp only [spec_MeetingsOf.j4]
  cases c with
  | false => rfl
  | true =>
    have t := top_bd ha
    have ha' := ha
    unfold Cd Cand at ha'
    have hm : spec_l1Least.f 1 (o.length : Int) = some ((min 1 o.length : Nat) : Int) := by
      unfold spec_l1Least.f
      split <;> (congr 1; omega)
    have htk : o.take (min 1 o.length) = o.take 1 := by
      cases o with
      | nil => rfl
      | cons x o => rw [show min 1 (x :: o).length = 1 from by simp]
    rw [if_pos rfl, if_pos rfl, hm, Option.bind_some, if_pos (by omega), if_pos (by omega), specOut_ok hk ha, Option.bind_some, Int.toNat_natCast, htk]
    have hfb : Bd (fr (top a) a.f1) := fr_bd (by omega) (by omega) (by omega)
    have := times_ins (k := k) (l := o.take 1) (t := fr (top a) a.f1) (by rw [List.length_take]; omega) (fun x hx => (ho x (List.mem_of_mem_take hx)).1) hfb (by rw [List.length_take]; omega)
    rw [show (cut (a.f2 * a.f1 + a.f0) a.f1).1 = (fr (top a) a.f1).f0 from rfl, show (cut (a.f2 * a.f1 + a.f0) a.f1).2 = (fr (top a) a.f1).f1 from rfl, this]
    rfl
theorem loop_ok {a b : S25} (ha : Cd a) (hb : Cd b) {c : List S28} (hc : ∀ x, x ∈ c → Bd x ∧ Fr x ∧ 0 ≤ x.f0) (hcl : c.length ≤ 50) : ∀ (d k i : Nat) (o : List S28), c.length = i + d → BIG + 2 + d < k → o.length ≤ i → (∀ x, x ∈ o → Bd x ∧ Fr x) →
    spec_MeetingsOf.l0 k o c i a.f0 a.f1 a.f2 b.f0 b.f1 b.f2 = some (fin a b (pick a b (c.drop i) o), true) := by
  have hb0 : 1000 ≤ BIG := big_pos2
  intro d
  induction d with
  | zero =>
    intro k i o h1 hk hl ho
    obtain ⟨k, rfl⟩ : ∃ m, k = m + 2 := ⟨k - 2, by omega⟩
    simp only [spec_MeetingsOf.l0]
    rw [if_neg (by omega), List.drop_eq_nil_of_le (by omega)]
    show _ = some (fin a b o, true)
    rw [w_top ha, w_top hb, j3_ok (by omega) ha (by omega) ho, j3_ok (by omega) ha (by omega) ho]
    unfold fin
    by_cases h2 : a.f1 = b.f1
    · rw [if_pos h2]
      by_cases h3 : top a = top b
      · have g : a.f1 = b.f1 ∧ top a = top b := ⟨h2, h3⟩
        rw [if_pos g, if_pos (by simp [h3])]
      · have g : ¬ (a.f1 = b.f1 ∧ top a = top b) := fun h => h3 h.2
        rw [if_neg g, if_neg (by simp [h3])]
    · have g : ¬ (a.f1 = b.f1 ∧ top a = top b) := fun h => h2 h.1
      rw [if_neg h2, if_neg g, if_neg (by decide)]
  | succ d ih =>
    intro k i o h1 hk hl ho
    obtain ⟨k, rfl⟩ : ∃ m, k = m + 1 := ⟨k - 1, by omega⟩
    obtain ⟨x, hxx⟩ := at_lt (xs := c) (i := i) (by omega)
    have hd : c.drop i = x :: c.drop (i + 1) := by
      rw [List.drop_eq_getElem_cons (by omega)]
      rw [List.getElem?_eq_getElem (by omega)] at hxx
      cases hxx; rfl
    obtain ⟨g1, g2, g3⟩ := hc x (List.mem_of_getElem? hxx)
    simp only [spec_MeetingsOf.l0, rd28 hxx]
    rw [if_pos (by omega), if_pos (by omega), specMeet (by omega) ha hb g1 g2 g3, Option.bind_some, wrS i (by omega), hd]
    show _ = some (fin a b (pick a b (c.drop (i + 1)) (if Mb a b x = true then ins o x else o)), true)
    by_cases h2 : Mb a b x = true
    · rw [if_pos h2, if_pos h2, times_ins (by omega) (fun y hy => (ho y hy).1) g1 (by omega), Option.bind_some]
      refine ih k (i + 1) _ (by omega) (by omega) ?_ ?_
      · have := ins_len o x; omega
      · intro y hy
        rcases ins_mem.1 hy with rfl | hy
        · exact ⟨g1, g2⟩
        · exact ho y hy
    · rw [if_neg h2, if_neg h2]
      exact ih k (i + 1) o (by omega) (by omega) (by omega) ho
theorem specM_ok {k : Nat} (hk : BIG + 100 ≤ k) {a b : S25} (ha : Cd a) (hb : Cd b) : spec_MeetingsOf.j0 k [] false a.f0 a.f1 a.f2 b.f0 b.f1 b.f2 = some (specList a b, true) := by
  have hb0 : 1000 ≤ BIG := big_pos2
  obtain ⟨k, rfl⟩ : ∃ m, k = m + 2 := ⟨k - 2, by omega⟩
  have t1 := top_bd ha
  have t2 := top_bd hb
  have ha' := ha
  have hb' := hb
  unfold Cd Cand at ha' hb'
  have lo := loop_ok ha hb (some_ok ha hb)
  have hl1 : (if b.f0 ≥ a.f0 then [] else [lvl a b]).length ≤ 1 := by split <;> simp
  have hl2 : (if a.f0 ≥ b.f0 then [] else [lvl b a]).length ≤ 1 := by split <;> simp
  have es : specList a b = fin a b (pick a b (someC a b) []) := rfl
  simp only [spec_MeetingsOf.j0]
  rw [if_neg (by decide), specLevel_ok (by omega) ha hb, Option.bind_some, specLevel_ok (by omega) hb ha, Option.bind_some, if_pos (by omega)]
  simp only [Option.bind_some]
  rw [if_pos (by simp only [List.length_append, List.length_cons, List.length_nil]; omega), w_top2 ha hb, w64 (n := a.f1 - b.f1) (by omega) (by omega), w64 (n := -(a.f1 - b.f1)) (by omega) (by omega), w64 (n := -(top a - top b)) (by omega) (by omega)]
  rw [show ((if b.f0 ≥ a.f0 then [] else [lvl a b]) ++ (if a.f0 ≥ b.f0 then [] else [lvl b a]) ++ [(⟨a.f2, 1⟩ : S28), ⟨b.f2, 1⟩]) = some1 a b from rfl, es]
  have hs1 : (some1 a b).length ≤ 4 := by unfold some1; simp only [List.length_append, List.length_cons, List.length_nil]; omega
  have go : ∀ K c, BIG + 80 ≤ K → c = someC a b → spec_MeetingsOf.j2 (K + 1) [] c a.f0 a.f1 a.f2 b.f0 b.f1 b.f2 = some (fin a b (pick a b (someC a b) []), true) := by
    intro K c hK hc
    subst hc
    have hl3 : (someC a b).length ≤ 5 := by
      unfold someC
      rw [List.length_append]
      split
      · simp; omega
      · split <;> split <;> simp <;> omega
    simp only [spec_MeetingsOf.j2]
    have := lo (by omega) (someC a b).length K 0 [] (by omega) (by omega) (by simp) (by simp)
    simpa using this
  obtain ⟨k, rfl⟩ : ∃ m, k = m + 1 := ⟨k - 1, by omega⟩
  by_cases hne : a.f1 = b.f1
  · rw [if_pos hne]
    exact go _ _ (by omega) (by unfold someC; rw [if_pos hne, List.append_nil])
  · rw [if_neg hne]
    simp only [spec_MeetingsOf.j1]
    by_cases h1 : a.f1 - b.f1 < 0
    · rw [if_pos h1]
      by_cases h2 : -(top a - top b) ≥ 0
      · rw [if_pos h2, l2Cut_ok (by omega) (by omega) (by omega) (by omega), Option.bind_some, if_pos (by omega)]
        refine go _ _ (by omega) ?_
        unfold someC
        rw [if_neg hne, if_pos (by rw [if_pos h1]; exact h2)]
        unfold crs
        rw [if_pos h1]; rfl
      · rw [if_neg h2]
        refine go _ _ (by omega) ?_
        unfold someC
        rw [if_neg hne, if_neg (by rw [if_pos h1]; exact h2), List.append_nil]
    · rw [if_neg h1]
      by_cases h2 : top a - top b ≥ 0
      · rw [if_pos h2, l2Cut_ok (by omega) (by omega) (by omega) (by omega), Option.bind_some, if_pos (by omega)]
        refine go _ _ (by omega) ?_
        unfold someC
        rw [if_neg hne, if_pos (by rw [if_neg h1]; exact h2)]
        unfold crs
        rw [if_neg h1]; rfl
      · rw [if_neg h2]
        refine go _ _ (by omega) ?_
        unfold someC
        rw [if_neg hne, if_neg (by rw [if_neg h1]; exact h2), List.append_nil]
instance (x : S25) : Decidable (Cd x) := by unfold Cd; infer_instance
def meetAns (a b : S25) : List S28 × Bool := if Cd a ∧ Cd b then (if b.f2 < a.f2 then implList b a else implList a b, true) else ([], false)
theorem implList_len (a b : S25) : (implList a b).length ≤ 3 := by
  unfold implList
  simp only
  have h : (if ¬ lt ⟨b.f2, 1⟩ (lvl a b) ∧ Mb a b (lvl a b) = true then [lvl a b] else []).length ≤ 1 := by split <;> simp
  generalize (if ¬ lt ⟨b.f2, 1⟩ (lvl a b) ∧ Mb a b (lvl a b) = true then [lvl a b] else []) = o at h ⊢
  split
  · split
    · split <;> simp <;> omega
    · omega
  · split
    · split <;> simp <;> omega
    · omega
theorem meetAns_len (a b : S25) : (meetAns a b).1.length ≤ 3 := by
  unfold meetAns
  split
  · simp only
    split <;> exact implList_len _ _
  · simp
theorem meet_impl {k : Nat} (hk : BIG + 100 ≤ k) (a b : S25) : impl_MeetingsOf.f k a.f0 a.f1 a.f2 b.f0 b.f1 b.f2 = some (meetAns a b) := by
  unfold impl_MeetingsOf.f meetF meetAns
  rw [impl_isCandle_ok, impl_isCandle_ok, Option.bind_some, Option.bind_some]
  by_cases h1 : Cd a
  · have h1' : Cand a.f0 a.f1 a.f2 := h1
    by_cases h2 : Cd b
    · have h2' : Cand b.f0 b.f1 b.f2 := h2
      rw [decide_eq_true h1', decide_eq_true h2', if_pos rfl, if_pos rfl, if_pos (show Cd a ∧ Cd b from ⟨h1, h2⟩)]
      by_cases h3 : b.f2 < a.f2
      · rw [if_pos h3, if_pos h3, implM_ok (by omega) h2 h1]; rfl
      · rw [if_neg h3, if_neg h3, implM_ok (by omega) h1 h2]; rfl
    · have h2' : ¬ Cand b.f0 b.f1 b.f2 := h2
      rw [decide_eq_true h1', decide_eq_false h2', if_pos rfl, if_neg (by decide), if_neg (show ¬ (Cd a ∧ Cd b) from fun h => h2 h.2)]
  · have h1' : ¬ Cand a.f0 a.f1 a.f2 := h1
    rw [decide_eq_false h1', if_neg (by decide), if_neg (show ¬ (Cd a ∧ Cd b) from fun h => h1 h.1)]
theorem meet_spec {k : Nat} (hk : BIG + 100 ≤ k) (a b : S25) : spec_MeetingsOf.f k a.f0 a.f1 a.f2 b.f0 b.f1 b.f2 = some (meetAns a b) := by
  obtain ⟨k, rfl⟩ : ∃ m, k = m + 1 := ⟨k - 1, by omega⟩
  unfold spec_MeetingsOf.f meetAns
  rw [Option.bind_some, cand_ok, cand_ok, Option.bind_some, Option.bind_some]
  have no : spec_MeetingsOf.j0 (k + 1) [] true a.f0 a.f1 a.f2 b.f0 b.f1 b.f2 = some ([], false) := by simp only [spec_MeetingsOf.j0, if_true]
  by_cases h1 : Cd a
  · have h1' : Cand a.f0 a.f1 a.f2 := h1
    by_cases h2 : Cd b
    · have h2' : Cand b.f0 b.f1 b.f2 := h2
      rw [decide_eq_true h1', decide_eq_true h2', if_pos rfl, if_pos (show Cd a ∧ Cd b from ⟨h1, h2⟩), show (!true) = false from rfl, specM_ok hk h1 h2]
      by_cases h3 : b.f2 < a.f2
      · rw [if_pos h3, lists_eq h2 h1 (by omega) a b (Or.inr ⟨rfl, rfl⟩)]
      · rw [if_neg h3, lists_eq h1 h2 (by omega) a b (Or.inl ⟨rfl, rfl⟩)]
    · have h2' : ¬ Cand b.f0 b.f1 b.f2 := h2
      rw [decide_eq_true h1', decide_eq_false h2', if_pos rfl, if_neg (show ¬ (Cd a ∧ Cd b) from fun h => h2 h.2)]
      exact no
  · have h1' : ¬ Cand a.f0 a.f1 a.f2 := h1
    rw [decide_eq_false h1', if_neg (by decide), if_neg (show ¬ (Cd a ∧ Cd b) from fun h => h1 h.1)]
    exact no
theorem FnExactMeetingsOf : laws_FnExactMeetingsOf.Pure := by
  intro a0 a1 a2 b0 b1 b2 _ _ _ _ _ _
  have hs : ∀ k, BIG + 100 ≤ k → spec_MeetingsOf.f k a0 a1 a2 b0 b1 b2 = some (meetAns ⟨a0, a1, a2⟩ ⟨b0, b1, b2⟩) := fun k hk => meet_spec hk ⟨a0, a1, a2⟩ ⟨b0, b1, b2⟩
  have hi : ∀ k, BIG + 100 ≤ k → impl_MeetingsOf.f k a0 a1 a2 b0 b1 b2 = some (meetAns ⟨a0, a1, a2⟩ ⟨b0, b1, b2⟩) := fun k hk => meet_impl hk ⟨a0, a1, a2⟩ ⟨b0, b1, b2⟩
  have hl := meetAns_len ⟨a0, a1, a2⟩ ⟨b0, b1, b2⟩
  generalize meetAns ⟨a0, a1, a2⟩ ⟨b0, b1, b2⟩ = r at *
  generalize BIG = B at *
  obtain ⟨K, hK⟩ : ∃ K, K = B + 3000 := ⟨_, rfl⟩
  refine ⟨K + 1 + 1, ?_⟩
  unfold laws_FnExactMeetingsOf.f
  simp only [toCandle_ok, Option.bind_some]
  rw [hs _ (by omega), Option.bind_some, hi _ (by omega), Option.bind_some, eqIntA2S_self (by omega) (by omega), Option.bind_some, if_pos rfl]
  simp only [laws_FnExactMeetingsOf.j0, bne_self_eq_false, Bool.false_eq_true, if_false, toCandle_ok, Option.bind_some]
  rw [markIntA2S_ok (by omega) (by omega), Option.bind_some]
  simp only
  rw [heldIntA2S_ok (by omega) (by omega), Option.bind_some, if_neg (by omega), if_pos rfl, hi _ (by omega), Option.bind_some]
  rw [eqIntA2S_self (by omega) (by omega), Option.bind_some, if_pos rfl]
  simp only [laws_FnExactMeetingsOf.j1, bne_self_eq_false, Bool.false_eq_true, if_false]
  rw [heldIntA2S_ok (by omega) (by omega), Option.bind_some, if_neg (by omega), if_pos rfl]
end Go.Proofs.Ytkefphfjeodgnaa.Pure
