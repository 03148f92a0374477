/- slices.SortFunc at rows of pairs of the call's own, by their fractions. Conditions: those each lemma names. -/
import Derived.Test.YthloakjlpblakaaVNextTimeHandK
import Derived.Shelf.SlSortCmp.WholeK
set_option linter.unusedVariables false
set_option linter.unusedSimpArgs false
namespace Go.Proofs.Ythloakjlpblakaa.PB
open Go.RowKit Go.Proofs.YthloakjlpblakaaW.PrintWords Go.Proofs.YthloakjlpblakaaW.PrintLast Go.Proofs.YthloakjlpblakaaW.PrintMore Go.Proofs.YthloakjlpblakaaX
open Go.Sort (flatK putRowK HoldsK putCells SWO)

theorem kP_open {w : World} {b : Nat} {ok : Nat → Prop} {x : Int × Int} {cs : List Value} (h : kP.M w b ok x cs) : cs = [.int .i64 x.1, .int .i64 x.2] := by
  obtain ⟨c0, c1, rfl, h0, h1⟩ := h
  have e0 : c0 = [.int .i64 x.1] := h0
  have e1 : c1 = [.int .i64 x.2] := h1
  rw [e0, e1]; rfl
theorem reps_flat {w : World} {b : Nat} {ok : Nat → Prop} : ∀ (xs : List (Int × Int)), Reps (kP.M w b ok) 2 xs (flat xs) := by
  intro xs
  refine ⟨flat_length xs, fun j p hj => ?_⟩
  obtain ⟨h1, h2⟩ := flat_get xs j p hj
  have hl := (List.getElem?_eq_some_iff.1 hj).1
  have hf := flat_length xs
  have : ((flat xs).drop (j * 2)).take 2 = [.int .i64 p.1, .int .i64 p.2] := by
    obtain ⟨a1, b1⟩ := List.getElem?_eq_some_iff.1 h1
    obtain ⟨a2, b2⟩ := List.getElem?_eq_some_iff.1 h2
    rw [List.drop_eq_getElem_cons a1, List.drop_eq_getElem_cons a2, b1, b2]
    rfl
  rw [this]
  exact kP_M _ _ _ _
theorem flat_of_reps {w : World} {b : Nat} {ok : Nat → Prop} : ∀ (xs : List (Int × Int)) (cs : List Value), Reps (kP.M w b ok) 2 xs cs → cs = flat xs := by
  intro xs cs h
  apply List.ext_getElem?
  intro i
  have hf := flat_length xs
  rcases Nat.lt_or_ge i (xs.length * 2) with hi | hi
  · obtain ⟨p, hp⟩ : ∃ p, xs[i / 2]? = some p := ⟨xs[i / 2]'(by omega), List.getElem?_eq_getElem _⟩
    have h1 := kP_open (h.2 (i / 2) p hp)
    obtain ⟨g1, g2⟩ := flat_get xs (i / 2) p hp
    have hl := h.1
    have hc : ∀ r, r < 2 → cs[i / 2 * 2 + r]? = ([.int .i64 p.1, .int .i64 p.2] : List Value)[r]? := by
      intro r hr
      rw [← h1, List.getElem?_take_of_lt hr, List.getElem?_drop]
    rcases Nat.mod_two_eq_zero_or_one i with hm | hm
    · rw [show i = i / 2 * 2 by omega, g1]
      exact hc 0 (by decide)
    · rw [show i = i / 2 * 2 + 1 by omega, g2]
      exact hc 1 (by decide)
  · rw [List.getElem?_eq_none (by rw [h.1]; exact hi), List.getElem?_eq_none (by omega)]
theorem RowP_of_R {w : World} {b : Nat} {ok : Nat → Prop} {g n cap : Nat} {xs : List (Int × Int)} (h : kP.R 27 w b ok (.slice (some ⟨g, 0, none⟩) n cap) xs) : RowP w g cap xs ∧ n = xs.length ∧ xs.length ≤ cap ∧ cap ≤ maxLen ∧ b ≤ g := by
  obtain ⟨h0, inner, ⟨hl, ho⟩, hr⟩ := h
  rcases ho with ⟨hn, _⟩ | ⟨g', cap', cur, hv, hb, hh, hn, hc, hs, ht⟩
  · cases hn
  · cases hv
    obtain rfl := flat_of_reps xs inner hr
    refine ⟨⟨cur.toList.drop (xs.length * kP.sz), ?_, ?_⟩, rfl, hn, hc, hb⟩
    · rw [hh, ← ht, List.take_append_drop, Array.toArray_toList]
    · have e : kP.sz = 2 := rfl
      rw [e] at hs ⊢
      have hcl : cur.toList.length = cur.size := Array.length_toList
      have := Nat.mul_le_mul_right 2 hn
      rw [List.length_drop]
      omega
theorem R_of_RowP {w : World} {b : Nat} {g cap : Nat} {xs : List (Int × Int)} (h : RowP w g cap xs) (hc : xs.length ≤ cap) (hm : cap ≤ maxLen) (hb : b ≤ g) : kP.R 27 w b (fun _ => True) (.slice (some ⟨g, 0, none⟩) xs.length cap) xs := by
  obtain ⟨sp, hh, hl⟩ := h
  have hf := flat_length xs
  refine ⟨fun _ _ => trivial, flat xs, ⟨hf, .inr ⟨g, cap, _, rfl, hb, hh, hc, hm, ?_, ?_⟩⟩, reps_flat xs⟩
  · show (flat xs ++ sp).toArray.size = cap * 2
    rw [List.size_toArray, List.length_append, hf, hl]
  · show ((flat xs ++ sp).toArray.toList).take (xs.length * 2) = flat xs
    rw [List.toList_toArray, ← hf, List.take_left]
/-- Small fractions. -/
abbrev SmF (x : Int × Int) : Prop := (0 < x.2 ∧ x.2 ≤ 256) ∧ (0 ≤ x.1 ∧ x.1 ≤ 4096)
abbrev Sm := { x : Int × Int // SmF x }
instance : Inhabited Sm := ⟨⟨(0, 1), by decide⟩⟩
def encS (x : Sm) : List Value := [.int .i64 x.1.1, .int .i64 x.1.2]
def cfS (x y : Sm) : Int := x.1.1 * y.1.2 - y.1.1 * x.1.2
theorem flatK_eq (s : List Sm) : (flatK encS 2 s.toArray) = (flat (s.map Subtype.val)).toArray := by
  have hf := flat_length (s.map Subtype.val)
  rw [List.length_map] at hf
  apply Array.ext
  · simp [hf]
  · intro t h1 h2
    have ht : t < s.length * 2 := by simpa using h1
    obtain ⟨p, hp⟩ : ∃ p, s[t / 2]? = some p := ⟨s[t / 2]'(by omega), List.getElem?_eq_getElem _⟩
    have hp2 : (s.map Subtype.val)[t / 2]? = some p.1 := by rw [List.getElem?_map, hp]; rfl
    obtain ⟨g1, g2⟩ := flat_get _ _ _ hp2
    have e1 : s.toArray[t / 2]! = p := by
      simp [hp]
    have e2 : (flatK encS 2 s.toArray)[t] = (encS p)[t % 2]! := by
      have := Go.Sort.get_flatK encS 2 s.toArray t (by simpa using ht)
      rw [e1] at this
      rw [← this, getElem!_pos]
    rw [e2, List.getElem_toArray]
    have e3 : (flat (s.map Subtype.val))[t]? = some ((encS p)[t % 2]!) := by
      rcases Nat.mod_two_eq_zero_or_one t with hm | hm
      · rw [hm, show t = t / 2 * 2 by omega, g1]; rfl
      · rw [hm, show t = t / 2 * 2 + 1 by omega, g2]; rfl
    rw [List.getElem?_eq_getElem (by omega)] at e3
    exact (Option.some.inj e3).symm
theorem holds_of_RowP {w : World} {g cap : Nat} {s : List Sm} (h : RowP w g cap (s.map Subtype.val)) : HoldsK encS 2 w g 0 s.toArray := by
  unfold HoldsK
  rw [flatK_eq]
  obtain ⟨sp, hb, hl⟩ := h
  intro j hj
  have hj' : j < (flat (s.map Subtype.val)).length := by simpa using hj
  refine ⟨?_, by rw [Nat.zero_add]; exact blk_frozen hb j⟩
  rw [Nat.zero_add, blk_cell hb, List.getElem?_toArray, List.getElem?_append_left hj', List.getElem?_eq_getElem hj']
  simp [hj']
theorem RowP_sorted {w : World} {g cap n : Nat} {os : Array Obj} {xs : List (Int × Int)} (h : RowP w g cap xs) (d : Array Sm) (hd : d.size = xs.length) : RowP (sortWorldK encS 2 w g 0 n d os) g cap (d.toList.map Subtype.val) := by
  obtain ⟨sp, hb, hl⟩ := h
  have hg : g < w.heap.size := blk_lt hb
  have hf := flat_length xs
  have hf2 := flat_length (d.toList.map Subtype.val)
  have hdl : d.toList.length = d.size := Array.length_toList
  rw [List.length_map] at hf2
  refine ⟨sp, ?_, by rw [List.length_map]; omega⟩
  unfold sortWorldK
  have e0 : (Go.Sort.grow (putRowK encS 2 (Go.Sort.ahead w n) g 0 d) os).heap[g]? = some (.cells (putCells id 0 (flatK encS 2 d) (flat xs ++ sp).toArray) 27 (0, 0)) := by
    rw [Go.Sort.heap_grow_old _ _ (by simpa [putRowK] using hg)]
    simp [putRowK, Go.Sort.putRow, Go.Sort.mapBlock, Go.Sort.ahead, Array.getElem?_modify, hb, Go.Sort.onCells]
  rw [e0]
  congr 2
  have e1 := flatK_eq d.toList
  rw [Array.toArray_toList] at e1
  rw [e1]
  apply Array.ext
  · simp only [putCells, Array.size_mapIdx, List.size_toArray, List.length_append]; omega
  · intro t h1 h2
    simp only [putCells, Array.getElem_mapIdx, List.getElem_toArray, Nat.zero_le, true_and, Nat.zero_add, Nat.sub_zero, List.size_toArray, id]
    by_cases ht : t < (flat (d.toList.map Subtype.val)).length
    · rw [if_pos ht, List.getElem_append_left ht]
      simp [ht]
    · rw [if_neg ht, List.getElem_append_right (by omega), List.getElem_append_right (by omega)]
      congr 1
      omega
theorem grown_sorted {w : World} {g n : Nat} {os : Array Obj} (d : Array Sm) : w.grownBy (sortWorldK encS 2 w g 0 n d os) (some g) := by
  unfold sortWorldK
  refine ⟨rfl, rfl, rfl, by simp [putRowK], fun k hk hne => ?_⟩
  rw [Go.Sort.heap_grow_old _ _ (by simpa [putRowK] using hk)]
  have : g ≠ k := fun e => hne (by rw [e])
  simp [putRowK, Go.Sort.putRow, Go.Sort.mapBlock, Go.Sort.ahead, Array.getElem?_modify, this]
/-! ### the order -/
theorem cf_trans {a b c d e f : Int} (hb : 0 < b) (hd : 0 < d) (hf : 0 < f) (h1 : a * d < c * b) (h2 : c * f < e * d) : a * f < e * b := by
  have g1 : (a * d) * f < (c * b) * f := Int.mul_lt_mul_of_pos_right h1 hf
  have g2 : (c * f) * b < (e * d) * b := Int.mul_lt_mul_of_pos_right h2 hb
  have g3 : (a * f) * d < (e * b) * d := by
    have e1 : (a * d) * f = (a * f) * d := by rw [Int.mul_assoc, Int.mul_comm d f, ← Int.mul_assoc]
    have e2 : (c * b) * f = (c * f) * b := by rw [Int.mul_assoc, Int.mul_comm b f, ← Int.mul_assoc]
    have e3 : (e * d) * b = (e * b) * d := by rw [Int.mul_assoc, Int.mul_comm d b, ← Int.mul_assoc]
    omega
  exact Int.lt_of_mul_lt_mul_right g3 (Int.le_of_lt hd)
theorem cf_trans' {a b c d e f : Int} (hb : 0 < b) (hd : 0 < d) (hf : 0 < f) (h1 : c * b ≤ a * d) (h2 : e * d ≤ c * f) : e * b ≤ a * f := by
  have g1 : (c * b) * f ≤ (a * d) * f := Int.mul_le_mul_of_nonneg_right h1 (Int.le_of_lt hf)
  have g2 : (e * d) * b ≤ (c * f) * b := Int.mul_le_mul_of_nonneg_right h2 (Int.le_of_lt hb)
  have g3 : (e * b) * d ≤ (a * f) * d := by
    have e1 : (a * d) * f = (a * f) * d := by rw [Int.mul_assoc, Int.mul_comm d f, ← Int.mul_assoc]
    have e2 : (c * b) * f = (c * f) * b := by rw [Int.mul_assoc, Int.mul_comm b f, ← Int.mul_assoc]
    have e3 : (e * d) * b = (e * b) * d := by rw [Int.mul_assoc, Int.mul_comm d b, ← Int.mul_assoc]
    omega
  exact Int.le_of_mul_le_mul_right g3 hd
theorem swoS : SWO (ltOf cfS) where
  irrefl x := by unfold ltOf cfS; simp
  trans x y z h1 h2 := by
    unfold ltOf cfS at *
    simp only [decide_eq_true_eq] at *
    have := cf_trans x.2.1.1 y.2.1.1 z.2.1.1 (show x.1.1 * y.1.2 < y.1.1 * x.1.2 by omega) (show y.1.1 * z.1.2 < z.1.1 * y.1.2 by omega)
    omega
  ntrans x y z h1 h2 := by
    unfold ltOf cfS at *
    simp only [decide_eq_false_iff_not] at *
    have := cf_trans' x.2.1.1 y.2.1.1 z.2.1.1 (show y.1.1 * x.1.2 ≤ x.1.1 * y.1.2 by omega) (show z.1.1 * y.1.2 ≤ y.1.1 * z.1.2 by omega)
    omega
theorem sm_prod (x y : Sm) : 0 ≤ x.1.1 * y.1.2 ∧ x.1.1 * y.1.2 ≤ 1048576 :=
  ⟨Int.mul_nonneg x.2.2.1 (Int.le_of_lt y.2.1.1), by
    have := Int.mul_le_mul x.2.2.2 y.2.1.2 (Int.le_of_lt y.2.1.1) (show (0 : Int) ≤ 4096 by decide)
    omega⟩
set_option maxHeartbeats 1000000 in
theorem cmp_walk (x y : Sm) (W : World) : Calls Try.prog 67 #[.agg #[.int .i64 x.1.1, .int .i64 x.1.2], .agg #[.int .i64 y.1.1, .int .i64 y.1.2]] W fun e w' => e = .returned (.int .i64 (cfS x y)) ∧ ∃ q os', w' = Go.Sort.grow (W.drewN q) os' := by
  obtain ⟨p1, p2⟩ := sm_prod x y
  obtain ⟨q1, q2⟩ := sm_prod y x
  have w1 : IntKind.i64.wrap (x.1.1 * y.1.2) = x.1.1 * y.1.2 := IntWalk.i64_in _ (by omega)
  have w2 : IntKind.i64.wrap (y.1.1 * x.1.2) = y.1.1 * x.1.2 := IntWalk.i64_in _ (by omega)
  have w3 : IntKind.i64.wrap (x.1.1 * y.1.2 - y.1.1 * x.1.2) = cfS x y := IntWalk.i64_in _ (by omega)
  clear p1 p2 q1 q2
  go_enter Try.func67, Try.ntmps67
  go_wp2
  go_ret
  exact ⟨rfl, 0, _, by rw [Go.Sort.alloc_eq_grow, Go.Sort.alloc_eq_grow, Go.Sort.grow_grow]; rfl⟩
theorem cmp_lays (blk off size : Nat) (w : World) : CmpLays Try.prog 67 #[] encS 2 cfS blk off size w :=
  fun _ _ _ _ x y => cmp_walk x y _
def sortFr_ren : Go.Shelf.Ren := ⟨fun | 6 => 78 | 15 => 92 | 14 => 91 | 28 => 108 | 29 => 109 | 20 => 100 | 21 => 101 | 22 => 102 | 23 => 103 | 24 => 104 | 25 => 105 | 26 => 106 | 27 => 107 | 46 => 111 | 47 => 112 | 48 => 113 | 49 => 114 | 50 => 115 | 57 => 116 | n => n, fun | 22 => 37 | 24 => 27 | 25 => 79 | 3 => 3 | 39 => 102 | 0 => 0 | 53 => 114 | 55 => 91 | 4 => 4 | 46 => 108 | 45 => 107 | 50 => 22 | 5 => 5 | 9 => 9 | 66 => 117 | 70 => 121 | 76 => 123 | 77 => 124 | n => n, fun | n => n⟩
theorem sortFr : Go.Proofs.SlLaysF0.n6 Try.prog sortFr_ren := {
  mixed := by kernel_rfl
  f6 := ⟨Try.f78.name, by decide, Try.func78.trans (congrArg some (by kernel_rfl))⟩
  f14 := ⟨Try.f91.name, by decide, Try.func91.trans (congrArg some (by kernel_rfl))⟩
  f15 := Try.func92.trans (congrArg some (by kernel_rfl))
  f20 := ⟨Try.f100.name, by decide, Try.func100.trans (congrArg some (by kernel_rfl))⟩
  f21 := ⟨Try.f101.name, by decide, Try.func101.trans (congrArg some (by kernel_rfl))⟩
  f22 := ⟨Try.f102.name, by decide, Try.func102.trans (congrArg some (by kernel_rfl))⟩
  f23 := ⟨Try.f103.name, by decide, Try.func103.trans (congrArg some (by kernel_rfl))⟩
  f24 := ⟨Try.f104.name, by decide, Try.func104.trans (congrArg some (by kernel_rfl))⟩
  f25 := ⟨Try.f105.name, by decide, Try.func105.trans (congrArg some (by kernel_rfl))⟩
  f26 := ⟨Try.f106.name, by decide, Try.func106.trans (congrArg some (by kernel_rfl))⟩
  f27 := ⟨Try.f107.name, by decide, Try.func107.trans (congrArg some (by kernel_rfl))⟩
  f28 := Try.func108.trans (congrArg some (by kernel_rfl))
  f29 := Try.func109.trans (congrArg some (by kernel_rfl))
  f46 := ⟨Try.f111.name, by decide, Try.func111.trans (congrArg some (by kernel_rfl))⟩
  f47 := Try.func112.trans (congrArg some (by kernel_rfl))
  f48 := Try.func113.trans (congrArg some (by kernel_rfl))
  f49 := ⟨Try.f114.name, by decide, Try.func114.trans (congrArg some (by kernel_rfl))⟩
  f50 := ⟨Try.f115.name, by decide, Try.func115.trans (congrArg some (by kernel_rfl))⟩
  f57 := ⟨Try.f116.name, by decide, Try.func116.trans (congrArg some (by kernel_rfl))⟩
  t0 := Try.underlying0
  a0 := Try.isAgg0
  z0 := Try.sizeOf0
  v0 := Try.zeroValue0
  t3 := Try.underlying3
  a3 := Try.isAgg3
  z3 := Try.sizeOf3
  v3 := Try.zeroValue3
  t4 := Try.underlying4
  a4 := Try.isAgg4
  z4 := Try.sizeOf4
  v4 := Try.zeroValue4
  t5 := Try.underlying5
  a5 := Try.isAgg5
  z5 := Try.sizeOf5
  v5 := Try.zeroValue5
  t9 := Try.underlying9
  a9 := Try.isAgg9
  z9 := Try.sizeOf9
  v9 := Try.zeroValue9
  t22 := Try.underlying37
  a22 := Try.isAgg37
  z22 := Try.sizeOf37
  v22 := Try.zeroValue37
  t25 := Try.underlying79
  a25 := Try.isAgg79
  z25 := Try.sizeOf79
  v25 := Try.zeroValue79
  t39 := Try.underlying102
  a39 := Try.isAgg102
  z39 := Try.sizeOf102
  v39 := Try.zeroValue102
  t45 := Try.underlying107
  a45 := Try.isAgg107
  z45 := Try.sizeOf107
  v45 := Try.zeroValue107
  t46 := Try.underlying108
  a46 := Try.isAgg108
  z46 := Try.sizeOf108
  v46 := Try.zeroValue108
  t50 := Try.underlying22
  a50 := Try.isAgg22
  z50 := Try.sizeOf22
  v50 := Try.zeroValue22
  t53 := Try.underlying114
  a53 := Try.isAgg114
  z53 := Try.sizeOf114
  v53 := Try.zeroValue114
  t55 := Try.underlying91
  a55 := Try.isAgg91
  z55 := Try.sizeOf91
  v55 := Try.zeroValue91
  t66 := Try.underlying117
  a66 := Try.isAgg117
  z66 := Try.sizeOf117
  v66 := Try.zeroValue117
  t70 := Try.underlying121
  a70 := Try.isAgg121
  z70 := Try.sizeOf121
  v70 := Try.zeroValue121
  t76 := Try.underlying123
  a76 := Try.isAgg123
  z76 := Try.sizeOf123
  v76 := Try.zeroValue123
  t77 := Try.underlying124
  a77 := Try.isAgg124
  z77 := Try.sizeOf124
  v77 := Try.zeroValue124 }
/-- The list sorted, as the library sorts. -/
def sortS (s : List Sm) : List Sm := (Go.Sort.pdq (ltOf cfS) s.toArray 0 s.length (Lib.bitLen s.length) true true).toList
theorem sortS_perm (s : List Sm) : Go.Sort.PermIn 0 s.toArray.size s.toArray (Go.Sort.pdq (ltOf cfS) s.toArray 0 s.length (Lib.bitLen s.length) true true) ∧ Go.Sort.SortedIn (ltOf cfS) 0 s.toArray.size (Go.Sort.pdq (ltOf cfS) s.toArray 0 s.length (Lib.bitLen s.length) true true) :=
  Go.Sort.pdq_sorts (ltOf cfS) swoS s.toArray 0 s.toArray.size (Lib.bitLen s.toArray.size) true true (Nat.zero_le _) (Nat.le_refl _) (Or.inl rfl)
theorem sortS_length (s : List Sm) : (sortS s).length = s.length := by
  unfold sortS
  rw [Array.length_toList]
  exact (sortS_perm s).1.1
theorem sort_calls (w : World) (g cap : Nat) (s : List Sm) (hR : RowP w g cap (s.map Subtype.val)) (hl : s.length < 4611686018427387904) :
    Calls Try.prog 78 #[.slice (some ⟨g, 0, none⟩) s.length cap, .func (.func 67) #[] #[]] w fun e w' => e = .returned (.tuple #[]) ∧ RowP w' g cap ((sortS s).map Subtype.val) ∧ w.grownBy w' (some g) := by
  have eg : ∀ args w, (callFunc 67 args).run Try.prog w = .ok (.enter 67 args) w := enters_of Try.func67 (by kernel_rfl) rfl
  have hcon := AnyQ.slices_SortFunc_eq sortFr 2 Try.isAgg27 Try.sizeOf27 encS (fun _ => rfl) (fun x v hv => by simp [encS] at hv; rcases hv with rfl | rfl <;> rfl) cfS swoS 67 #[] g 0 cap s.toArray w eg (cmp_lays g 0 _ w) (holds_of_RowP hR) hR.lt hl
  refine (show Calls Try.prog 78 _ _ _ from hcon).mono fun e w' ⟨h1, n, os, h2⟩ => ⟨h1, ?_, ?_⟩
  · rw [h2]
    exact RowP_sorted hR _ (by rw [List.length_map]; exact (sortS_perm s).1.1)
  · rw [h2]
    exact grown_sorted _
end Go.Proofs.Ythloakjlpblakaa.PB
