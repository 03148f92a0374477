/- Times in order, each told once: plain laws. Conditions: those each lemma names. -/
import Derived.Test.YthloakjlpblakaaVNextTimeHandN
set_option linter.unusedVariables false
set_option linter.unusedSimpArgs false
namespace Go.Proofs.Ythloakjlpblakaa.PB
open Go.RowKit Go.Proofs.YthloakjlpblakaaW.PrintWords Go.Proofs.YthloakjlpblakaaW.PrintLast

/-- The order of fractions. -/
def ltP (x y : Int × Int) : Prop := x.1 * y.2 < y.1 * x.2
instance (x y : Int × Int) : Decidable (ltP x y) := inferInstanceAs (Decidable (_ < _))
theorem ltP_asymm {x y : Int × Int} (h : ltP x y) : ¬ ltP y x := by unfold ltP at *; omega
theorem ltP_irrefl (x : Int × Int) : ¬ ltP x x := by unfold ltP; omega
theorem strict_eq : ∀ {a b : List (Int × Int)}, a.Pairwise ltP → b.Pairwise ltP → (∀ x, x ∈ a ↔ x ∈ b) → a = b
  | [], [], _, _, _ => rfl
  | [], y :: b, _, _, h => by have := (h y).2 List.mem_cons_self; cases this
  | x :: a, [], _, _, h => by have := (h x).1 List.mem_cons_self; cases this
  | x :: a, y :: b, ha, hb, h => by
    rw [List.pairwise_cons] at ha hb
    have hxy : x = y := by
      rcases List.mem_cons.1 ((h x).1 List.mem_cons_self) with e | hx
      · exact e
      · rcases List.mem_cons.1 ((h y).2 List.mem_cons_self) with e | hy
        · exact e.symm
        · exact absurd (ha.1 y hy) (ltP_asymm (hb.1 x hx))
    subst hxy
    rw [strict_eq ha.2 hb.2 fun z => ?_]
    constructor
    · intro hz
      rcases List.mem_cons.1 ((h z).1 (List.mem_cons_of_mem _ hz)) with e | hz2
      · subst e; exact absurd (ha.1 z hz) (ltP_irrefl z)
      · exact hz2
    · intro hz
      rcases List.mem_cons.1 ((h z).2 (List.mem_cons_of_mem _ hz)) with e | hz2
      · subst e; exact absurd (hb.1 z hz) (ltP_irrefl z)
      · exact hz2
theorem snoc_ind {P : List (Int × Int) → Prop} (h0 : P []) (h1 : ∀ l x, P l → P (l ++ [x])) (l : List (Int × Int)) : P l := by
  have : ∀ (r : List (Int × Int)), P r.reverse := by
    intro r
    induction r with
    | nil => exact h0
    | cons x r ih => rw [List.reverse_cons]; exact h1 _ _ ih
  have := this l.reverse
  rwa [List.reverse_reverse] at this
theorem cmpL_mem (zs : List (Int × Int)) : ∀ x, x ∈ cmpL zs ↔ x ∈ zs := by
  refine snoc_ind (P := fun zs => ∀ x, x ∈ cmpL zs ↔ x ∈ zs) (fun x => Iff.rfl) (fun l y ih x => ?_) zs
  rw [cmpL_snoc]
  unfold cmpA
  split
  · rename_i h
    rw [ih, List.mem_append, List.mem_singleton]
    constructor
    · exact Or.inl
    · rintro (h2 | rfl)
      · exact h2
      · exact (ih x).1 (List.mem_of_getLast? h)
  · rw [List.mem_append, List.mem_append, ih]
theorem cmpL_strict {zs : List (Int × Int)} : zs.Pairwise (fun x y => ¬ ltP y x) → (∀ x y, x ∈ zs → y ∈ zs → ¬ ltP x y → ¬ ltP y x → x = y) → (cmpL zs).Pairwise ltP := by
  refine snoc_ind (P := fun zs => zs.Pairwise (fun x y => ¬ ltP y x) → (∀ x y, x ∈ zs → y ∈ zs → ¬ ltP x y → ¬ ltP y x → x = y) → (cmpL zs).Pairwise ltP) (fun _ _ => List.Pairwise.nil) (fun l x ih hp he => ?_) zs
  rw [List.pairwise_append] at hp
  have ih := ih hp.1 (fun a b ha hb => he a b (List.mem_append_left _ ha) (List.mem_append_left _ hb))
  rw [cmpL_snoc]
  unfold cmpA
  split
  · exact ih
  · rename_i hne
    rw [List.pairwise_append]
    refine ⟨ih, List.pairwise_singleton _ _, fun y hy z hz => ?_⟩
    rw [List.mem_singleton] at hz
    subst hz
    have hyl := (cmpL_mem l y).1 hy
    have h1 := hp.2.2 y hyl z List.mem_cons_self
    by_cases h2 : ltP y z
    · exact h2
    · exfalso
      have e := he y z (List.mem_append_left _ hyl) (List.mem_append_right _ List.mem_cons_self) h2 h1
      subst e
      have hnil : cmpL l ≠ [] := by intro e; rw [e] at hy; cases hy
      have hl := List.getLast?_eq_some_getLast hnil
      have hsplit := List.dropLast_concat_getLast hnil
      rw [← hsplit, List.mem_append, List.mem_singleton] at hy
      rcases hy with hy | hy
      · rw [← hsplit, List.pairwise_append] at ih
        have h3 := ih.2.2 y hy _ List.mem_cons_self
        have h4 := hp.2.2 _ ((cmpL_mem l _).1 (List.getLast_mem hnil)) y List.mem_cons_self
        exact h4 h3
      · rw [hl, ← hy] at hne
        exact hne rfl
theorem sortS_mem (s : List Sm) : ∀ x, x ∈ sortS s ↔ x ∈ s := by
  intro x
  have h := (sortS_perm s).1.2.2
  have h2 := (sortS_perm s).1.1
  rw [show (s.toArray.extract 0 s.toArray.size).toList = s by simp] at h
  have e : ((Go.Sort.pdq (ltOf cfS) s.toArray 0 s.length (Lib.bitLen s.length) true true).extract 0 s.toArray.size) = Go.Sort.pdq (ltOf cfS) s.toArray 0 s.length (Lib.bitLen s.length) true true := by
    rw [← h2]; simp
  rw [e] at h
  exact h.mem_iff
theorem sortS_sorted (s : List Sm) : ((sortS s).map Subtype.val).Pairwise (fun x y => ¬ ltP y x) := by
  rw [List.pairwise_map, List.pairwise_iff_getElem]
  intro i j hi hj hij
  have h := (sortS_perm s).2 i j (Nat.zero_le _) hij (by rw [sortS_length] at hj; simpa using hj)
  have hsz : (Go.Sort.pdq (ltOf cfS) s.toArray 0 s.length (Lib.bitLen s.length) true true).size = s.length := (sortS_perm s).1.1
  rw [sortS_length] at hi hj
  unfold sortS
  rw [getElem!_pos _ j (by omega), getElem!_pos _ i (by omega)] at h
  unfold ltOf cfS at h
  rw [decide_eq_false_iff_not] at h
  intro hc
  exact h (Int.sub_neg_of_lt hc)
theorem smL_some : ∀ (xs : List (Int × Int)), (∀ x ∈ xs, SmF x) → ∃ s, smL xs = some s
  | [], _ => ⟨[], rfl⟩
  | x :: xs, h => by
    obtain ⟨s, hs⟩ := smL_some xs (fun y hy => h y (List.mem_cons_of_mem _ hy))
    refine ⟨⟨x, h x List.mem_cons_self⟩ :: s, ?_⟩
    unfold smL
    rw [dif_pos (h x List.mem_cons_self), hs]
    rfl
theorem strict_total : ∀ {ts : List (Int × Int)}, ts.Pairwise ltP → ∀ x y, x ∈ ts → y ∈ ts → ¬ ltP x y → ¬ ltP y x → x = y
  | t :: ts, h, x, y, hx, hy, h1, h2 => by
    rw [List.pairwise_cons] at h
    rcases List.mem_cons.1 hx with e1 | hx2
    · rcases List.mem_cons.1 hy with e2 | hy2
      · rw [e1, e2]
      · exact absurd (e1 ▸ h.1 y hy2) h1
    · rcases List.mem_cons.1 hy with e2 | hy2
      · exact absurd (e2 ▸ h.1 x hx2) h2
      · exact strict_total h.2 x y hx2 hy2 h1 h2
/-- The times of fuses: a list that is in order, and has the same members. -/
theorem times_eq {l : List FT} {ts : List (Int × Int)} (h0 : 0 < l.length) (h1 : l.length ≤ 1000000) (h2 : ∀ x ∈ l.map FT.time, SmF x) (h3 : ts.Pairwise ltP) (h4 : ∀ x, x ∈ l.map FT.time ↔ x ∈ ts) : timesL l = some ts := by
  obtain ⟨s, hs⟩ := smL_some _ h2
  have hm := smL_map hs
  have hl : s.length = l.length := by rw [← List.length_map (f := FT.time), ← hm, List.length_map]
  unfold timesL
  rw [hs, Option.bind_some, if_pos (by omega)]
  congr 1
  have hmem : ∀ x, x ∈ (sortS s).map Subtype.val ↔ x ∈ ts := fun x => by
    rw [← h4, ← hm]
    simp only [List.mem_map]
    constructor
    · rintro ⟨a, ha, rfl⟩; exact ⟨a, (sortS_mem s a).1 ha, rfl⟩
    · rintro ⟨a, ha, rfl⟩; exact ⟨a, (sortS_mem s a).2 ha, rfl⟩
  refine strict_eq (cmpL_strict (sortS_sorted s) fun x y hx hy => strict_total h3 x y ((hmem x).1 hx) ((hmem y).1 hy)) h3 fun x => ?_
  rw [cmpL_mem, hmem]
/-! ### Tests that the kernel evaluates -/
def smB (x : Int × Int) : Bool := decide (0 < x.2) && decide (x.2 ≤ 256) && (decide (0 ≤ x.1) && decide (x.1 ≤ 4096))
theorem smB_ok {x : Int × Int} (h : smB x = true) : SmF x := by
  unfold smB at h
  simp only [Bool.and_eq_true, decide_eq_true_eq] at h
  exact ⟨h.1, h.2⟩
def strictB : List (Int × Int) → Bool
  | [] => true
  | x :: xs => xs.all (fun y => decide (x.1 * y.2 < y.1 * x.2)) && strictB xs
theorem strictB_ok : ∀ {ts : List (Int × Int)}, strictB ts = true → ts.Pairwise ltP
  | [], _ => List.Pairwise.nil
  | x :: xs, h => by
    unfold strictB at h
    rw [Bool.and_eq_true, List.all_eq_true] at h
    exact List.Pairwise.cons (fun y hy => of_decide_eq_true (h.1 y hy)) (strictB_ok h.2)
def inB (x : Int × Int) (l : List (Int × Int)) : Bool := l.any (fun y => x.1 == y.1 && (x.2 == y.2))
theorem inB_ok {x : Int × Int} {l : List (Int × Int)} : inB x l = true ↔ x ∈ l := by
  unfold inB
  rw [List.any_eq_true]
  constructor
  · rintro ⟨y, hy, h⟩
    rw [Bool.and_eq_true, beq_iff_eq, beq_iff_eq] at h
    rwa [show x = y from Prod.ext h.1 h.2]
  · intro h
    exact ⟨x, h, by simp⟩
def sameB (a b : List (Int × Int)) : Bool := a.all (fun x => inB x b) && b.all (fun x => inB x a)
theorem sameB_ok {a b : List (Int × Int)} (h : sameB a b = true) : ∀ x, x ∈ a ↔ x ∈ b := by
  unfold sameB at h
  rw [Bool.and_eq_true, List.all_eq_true, List.all_eq_true] at h
  exact fun x => ⟨fun hx => inB_ok.1 (h.1 x hx), fun hx => inB_ok.1 (h.2 x hx)⟩
def okL (l : List FT) (ts : List (Int × Int)) : Bool := decide (0 < l.length) && decide (l.length ≤ 1000000) && (strictB ts && ((l.map FT.time).all smB && sameB (l.map FT.time) ts))
theorem okL_ok {l : List FT} {ts : List (Int × Int)} (h : okL l ts = true) : timesL l = some ts := by
  unfold okL at h
  simp only [Bool.and_eq_true, decide_eq_true_eq] at h
  exact times_eq h.1.1 h.1.2 (fun x hx => smB_ok (List.all_eq_true.1 h.2.2.1 x hx)) (strictB_ok h.2.1) (sameB_ok h.2.2.2)
def insU (u : List (Int × Int)) (x : Int × Int) : List (Int × Int) := u.filter (fun y => decide (y.1 * x.2 < x.1 * y.2)) ++ x :: u.filter (fun y => decide (x.1 * y.2 < y.1 * x.2))
end Go.Proofs.Ythloakjlpblakaa.PB
