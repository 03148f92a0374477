/- slices.Compact at rows of pairs of the call's own. Conditions: those each lemma names. -/
import Derived.Test.YthloakjlpblakaaVNextTimeHandI
import Derived.Test.YthloakjlpblakaaVNextTimeXArr
import Derived.Outline
set_option linter.unusedVariables false
set_option linter.unusedSimpArgs false
namespace Go.Proofs.Ythloakjlpblakaa.PB
open Go.RowKit Go.Proofs.YthloakjlpblakaaW.PrintWords Go.Proofs.YthloakjlpblakaaW.PrintLast Go.Proofs.YthloakjlpblakaaW.PrintMore Go.Proofs.YthloakjlpblakaaX

/-- The cells of a list of pairs. -/
def flat : List (Int × Int) → List Value
  | [] => []
  | x :: xs => .int .i64 x.1 :: .int .i64 x.2 :: flat xs
theorem flat_length : ∀ xs : List (Int × Int), (flat xs).length = xs.length * 2
  | [] => rfl
  | x :: xs => by simp only [flat, List.length_cons, flat_length xs]; omega
theorem flat_append : ∀ xs ys : List (Int × Int), flat (xs ++ ys) = flat xs ++ flat ys
  | [], _ => rfl
  | x :: xs, ys => by simp only [List.cons_append, flat, flat_append xs ys]
theorem flat_get : ∀ (xs : List (Int × Int)) (i : Nat) (x : Int × Int), xs[i]? = some x → (flat xs)[i * 2]? = some (.int .i64 x.1) ∧ (flat xs)[i * 2 + 1]? = some (.int .i64 x.2)
  | y :: xs, 0, x, h => by
    simp only [List.getElem?_cons_zero, Option.some.injEq] at h
    subst h
    exact ⟨rfl, rfl⟩
  | y :: xs, i + 1, x, h => by
    have h2 := flat_get xs i x (by simpa using h)
    rw [show (i + 1) * 2 = i * 2 + 2 by omega]
    exact ⟨by simpa [flat] using h2.1, by rw [show i * 2 + 2 + 1 = i * 2 + 1 + 2 by omega]; simpa [flat] using h2.2⟩
  | [], _, _, h => by simp at h
theorem flat_set : ∀ (xs : List (Int × Int)) (i : Nat) (x : Int × Int), flat (xs.set i x) = ((flat xs).set (i * 2) (.int .i64 x.1)).set (i * 2 + 1) (.int .i64 x.2)
  | [], _, _ => rfl
  | y :: xs, 0, x => rfl
  | y :: xs, i + 1, x => by
    rw [show (i + 1) * 2 = (i * 2 + 1) + 1 by omega, show (i * 2 + 1) + 1 + 1 = ((i * 2 + 1) + 1) + 1 by omega]
    simp only [List.set_cons_succ, flat, flat_set xs i x]
/-- A row of pairs that begins a block, with its spare behind it. -/
def RowP (w : World) (g cap : Nat) (xs : List (Int × Int)) : Prop := ∃ sp : List Value, w.heap[g]? = some (.cells (flat xs ++ sp).toArray 27 (0, 0)) ∧ xs.length * 2 + sp.length = cap * 2
theorem RowP.cells {w : World} {g cap : Nat} {xs : List (Int × Int)} (h : RowP w g cap xs) {i : Nat} {x : Int × Int} (hx : xs[i]? = some x) : w.cell? ⟨g, i * 2, none⟩ = some (.int .i64 x.1) ∧ w.cell? ⟨g, i * 2 + 1, none⟩ = some (.int .i64 x.2) := by
  obtain ⟨sp, hb, _⟩ := h
  obtain ⟨h1, h2⟩ := flat_get xs i x hx
  have hl := (List.getElem?_eq_some_iff.1 hx).1
  have hf := flat_length xs
  refine ⟨?_, ?_⟩
  · rw [blk_cell hb, List.getElem?_toArray, List.getElem?_append_left (by omega), h1]
  · rw [blk_cell hb, List.getElem?_toArray, List.getElem?_append_left (by omega), h2]
theorem RowP.frozen {w : World} {g cap : Nat} {xs : List (Int × Int)} (h : RowP w g cap xs) (j : Nat) : w.frozen? ⟨g, j, none⟩ = false := by
  obtain ⟨sp, hb, _⟩ := h
  exact blk_frozen hb j
theorem RowP.lt {w : World} {g cap : Nat} {xs : List (Int × Int)} (h : RowP w g cap xs) : g < w.heap.size := by
  obtain ⟨sp, hb, _⟩ := h
  exact blk_lt hb
theorem RowP.set {w : World} {g cap : Nat} {xs : List (Int × Int)} (h : RowP w g cap xs) {i : Nat} (hi : i < xs.length) (x : Int × Int) : RowP ((w.setCell ⟨g, i * 2, none⟩ (.int .i64 x.1)).setCell ⟨g, i * 2 + 1, none⟩ (.int .i64 x.2)) g cap (xs.set i x) := by
  obtain ⟨sp, hb, hl⟩ := h
  have hf := flat_length xs
  refine ⟨sp, ?_, by rw [List.length_set]; exact hl⟩
  have h2 := blk_put (blk_put hb (i * 2) (.int .i64 x.1) rfl) (i * 2 + 1) (.int .i64 x.2) rfl
  rw [h2]
  congr 2
  rw [flat_set, List.setIfInBounds_toArray, List.setIfInBounds_toArray, List.set_append_left _ _ (by omega), List.set_append_left _ _ (by rw [List.length_set]; omega)]
theorem RowP.drewN {w : World} {g cap : Nat} {xs : List (Int × Int)} (h : RowP w g cap xs) (n : Nat) : RowP (w.drewN n) g cap xs := h
/-- Runs of equal pairs, each told once. -/
def cmpA (acc : List (Int × Int)) (x : Int × Int) : List (Int × Int) := if acc.getLast? = some x then acc else acc ++ [x]
def cmpL (zs : List (Int × Int)) : List (Int × Int) := zs.foldl cmpA []
theorem cmpL_snoc (zs : List (Int × Int)) (x : Int × Int) : cmpL (zs ++ [x]) = cmpA (cmpL zs) x := by unfold cmpL; rw [List.foldl_append]; rfl
theorem cmpL_last : ∀ (zs : List (Int × Int)) (x : Int × Int), (cmpL (zs ++ [x])).getLast? = some x := by
  intro zs x
  rw [cmpL_snoc]
  unfold cmpA
  split
  · assumption
  · simp
theorem cmpL_len (zs : List (Int × Int)) : (cmpL zs).length ≤ zs.length := by
  have : ∀ (l acc : List (Int × Int)), (l.foldl cmpA acc).length ≤ acc.length + l.length := by
    intro l
    induction l with
    | nil => intro acc; simp
    | cons x l ih =>
      intro acc
      have h1 := ih (cmpA acc x)
      have h2 : (cmpA acc x).length ≤ acc.length + 1 := by unfold cmpA; split <;> simp
      simp only [List.foldl_cons, List.length_cons]; omega
  have := this zs []
  simpa [cmpL] using this
theorem take_snoc {zs : List (Int × Int)} {k : Nat} {x : Int × Int} (h : zs[k]? = some x) : zs.take (k + 1) = zs.take k ++ [x] := by
  rw [List.take_add_one, h]; rfl
/-- The next element, behind the one before it. -/
theorem cmpL_next {zs : List (Int × Int)} {k : Nat} {y x : Int × Int} (h0 : zs[k]? = some y) (h1 : zs[k + 1]? = some x) : cmpL (zs.take (k + 2)) = if y = x then cmpL (zs.take (k + 1)) else cmpL (zs.take (k + 1)) ++ [x] := by
  rw [take_snoc h1, cmpL_snoc]
  have hl : (cmpL (zs.take (k + 1))).getLast? = some y := by rw [take_snoc h0]; exact cmpL_last _ _
  unfold cmpA
  rw [hl]
  simp only [Option.some.injEq]
theorem grown_set {w w' : World} {g : Nat} (h : w.grownBy w' (some g)) (j : Nat) (v : Value) : w.grownBy (w'.setCell ⟨g, j, none⟩ v) (some g) :=
  ⟨by rw [← h.os]; simp [World.setCell], by rw [← h.tape]; simp [World.setCell], by rw [← h.output]; simp [World.setCell], by simpa using h.size, fun k hk hne => by
    rw [Below.heap_setCell w' ⟨g, j, none⟩ v k (fun e => hne (by rw [e]))]
    exact h.block k hk hne⟩
theorem grown_drewN {w w' : World} {g : Option Nat} (h : w.grownBy w' g) (n : Nat) : w.grownBy (w'.drewN n) g := ⟨h.os, h.tape, h.output, h.size, h.block⟩
theorem grown_refl (w : World) (g : Option Nat) : w.grownBy w g := ⟨rfl, rfl, rfl, Nat.le_refl _, fun _ _ _ => rfl⟩
theorem RowP.cut {w : World} {g cap : Nat} {C Z : List (Int × Int)} (h : RowP w g cap (C ++ Z)) : RowP w g cap C := by
  obtain ⟨sp, hb, hl⟩ := h
  have hf := flat_length Z
  refine ⟨flat Z ++ sp, by rw [hb, flat_append, List.append_assoc], by rw [List.length_append] at hl ⊢; omega⟩
theorem RowP.far {w : World} {g cap : Nat} {C : List (Int × Int)} (h : RowP w g cap C) {j : Nat} (hj : C.length * 2 ≤ j) (v : Value) : RowP (w.setCell ⟨g, j, none⟩ v) g cap C := by
  obtain ⟨sp, hb, hl⟩ := h
  have hf := flat_length C
  refine ⟨sp.set (j - C.length * 2) v, ?_, by rw [List.length_set]; exact hl⟩
  rw [blk_put hb j v rfl]
  congr 2
  rw [List.setIfInBounds_toArray, List.set_append_right _ _ (by omega), hf]
theorem RowP.fars {g cap : Nat} {C : List (Int × Int)} : ∀ (vs : List Value) (j : Nat) {w : World}, RowP w g cap C → C.length * 2 ≤ j → RowP (w.setCells g j vs) g cap C
  | [], _, _, h, _ => h
  | v :: vs, j, _, h, hj => RowP.fars vs (j + 1) (h.far hj v) (by omega)
theorem grown_sets {w : World} {g : Nat} : ∀ (vs : List Value) (j : Nat) {w' : World}, w.grownBy w' (some g) → w.grownBy (w'.setCells g j vs) (some g)
  | [], _, _, h => h
  | v :: vs, j, _, h => grown_sets vs (j + 1) (grown_set h j v)
theorem zero27 (w : World) : (zeroValue 27).run Try.prog w = .ok (.agg #[.int .i64 0, .int .i64 0]) w := by
  obtain ⟨i0, hi, hz⟩ := Option.map_eq_some_iff.mp kP_info
  simp only [Prod.mk.injEq] at hz
  simp [zeroValue, typeInfo, hi, hz.1]
theorem run_clear_pairs (w : World) (ty : TypeId) (g o n c : Nat) (hn : 0 < n) (hc : ∀ j, j < n * 2 → (w.cell? ⟨g, o + j, none⟩).isSome = true) (hf : ∀ j, j < n * 2 → w.frozen? ⟨g, o + j, none⟩ = false) :
    ∃ vs, (Builtin.clear_ #[37] ty #[.slice (some ⟨g, o, none⟩) n c]).run Try.prog w = .ok (.tuple #[]) (w.setCells g o vs) := by
  have hzl : (Builtin.zeroCells (Value.agg #[.int .i64 0, .int .i64 0]).cells n).toList.length = n * 2 := by simp [Builtin.zeroCells, Value.cells]
  have h1 : ∀ v ∈ (Builtin.zeroCells (Value.agg #[.int .i64 0, .int .i64 0]).cells n).toList, v.oneCell' = true := by
    intro v hv
    simp only [Builtin.zeroCells, Value.cells] at hv
    simp only [Array.toList_map, Array.toList_range, List.mem_map, List.mem_range] at hv
    obtain ⟨i, _, rfl⟩ := hv
    rcases Nat.mod_two_eq_zero_or_one i with h | h <;> simp [h, Value.oneCell']
  have hst := run_storeCells_cells (P := Try.prog) g o (Builtin.zeroCells (Value.agg #[.int .i64 0, .int .i64 0]).cells n).toList 0 w (by rw [hzl]; simpa using hc) (by rw [hzl]; simpa using hf) h1
  simp only [Nat.add_zero] at hst
  obtain ⟨m, rfl⟩ : ∃ m, n = m + 1 := ⟨n - 1, by omega⟩
  refine ⟨(Builtin.zeroCells (Value.agg #[.int .i64 0, .int .i64 0]).cells (m + 1)).toList, ?_⟩
  generalize hq : w.setCells g o (Builtin.zeroCells (Value.agg #[.int .i64 0, .int .i64 0]).cells (m + 1)).toList = W at hst ⊢
  clear hq hzl h1
  simp only [Builtin.clear_, List.getElem?_toArray, List.getElem?_cons_zero, Sem.run_bind, run_underlying Try.underlying37, Result.andThen_ok, zero27, hst, Sem.run_pure]
theorem RowP.some_ {w : World} {g cap : Nat} {xs : List (Int × Int)} (h : RowP w g cap xs) {j : Nat} (hj : j < xs.length * 2) : (w.cell? ⟨g, j, none⟩).isSome = true := by
  obtain ⟨sp, hb, hl⟩ := h
  have hf := flat_length xs
  rw [blk_cell hb, List.getElem?_toArray, List.getElem?_append_left (by omega), List.getElem?_eq_getElem (by omega)]
  rfl
theorem mid_get {C zs : List (Int × Int)} {m : Nat} {x : Int × Int} (hl : C.length ≤ m) (hx : zs[m]? = some x) : (C ++ zs.drop C.length)[m]? = some x := by
  rw [List.getElem?_append_right hl, List.getElem?_drop, show C.length + (m - C.length) = m by omega, hx]
theorem mid_set {C zs : List (Int × Int)} {x : Int × Int} (hl : C.length < zs.length) : (C ++ zs.drop C.length).set C.length x = (C ++ [x]) ++ zs.drop (C ++ [x]).length := by
  rw [List.set_append_right _ _ (Nat.le_refl _), Nat.sub_self, List.drop_eq_getElem_cons hl, List.set_cons_zero, List.append_assoc, List.length_append, List.length_singleton]
  rfl
theorem eqP27 (d : Nat) (w : World) (x0 y0 : Int) (x1 y1 : Int) :
    (Op.equalIn (d + 2) 27 (.agg #[.int .i64 x0, .int .i64 x1]) (.agg #[.int .i64 y0, .int .i64 y1])).run Try.prog w = .ok (x0 == y0 && (x1 == y1)) w := by
  refine eqA_arr (c := 1) Try.underlying27 (by kernel_rfl) (by kernel_rfl) ?_
  show (Op.eqItems _ _ _ _ _ [0, 1]).run _ _ = _
  refine eqi_cons (by go_simp; rfl) (by go_simp; rfl) (by go_simp) ?_
  exact eqi_last (by go_simp; rfl) (by go_simp; rfl) (by go_simp)
attribute [local go_sem high] eqP27
theorem pair_beq (x y : Int × Int) : (x.1 == y.1 && (x.2 == y.2)) = decide (y = x) := by
  cases x; cases y
  rw [Bool.eq_iff_iff, Bool.and_eq_true, beq_iff_eq, beq_iff_eq, decide_eq_true_eq, Prod.mk.injEq]
  constructor
  · rintro ⟨rfl, rfl⟩; exact ⟨rfl, rfl⟩
  · rintro ⟨rfl, rfl⟩; exact ⟨rfl, rfl⟩
set_option maxHeartbeats 8000000 in
set_option maxRecDepth 100000 in
theorem compact_calls (w : World) (g cap : Nat) (zs : List (Int × Int)) (hR : RowP w g cap zs) (hcap : zs.length ≤ cap) (hc : cap ≤ 9223372036854775807) :
    Calls Try.prog 79 #[.slice (some ⟨g, 0, none⟩) zs.length cap] w fun e w' => e = .returned (.slice (some ⟨g, 0, none⟩) (cmpL zs).length cap) ∧ RowP w' g cap (cmpL zs) ∧ w.grownBy w' (some g) := by
  have HR := Aside0.mk hR
  have HC := Aside0.mk hcap
  have hzl : zs.length ≤ 9223372036854775807 := Nat.le_trans hcap hc
  clear hR hcap hc
  by_cases h2 : zs.length < 2
  · have hd : decide (zs.length < 2) = true := decide_eq_true h2
    have e1 : cmpL zs = zs := by
      match zs, h2 with
      | [], _ => rfl
      | [x], _ => rfl
      | _ :: _ :: _, h => simp only [List.length_cons] at h; omega
    go_enter Try.func79, Try.ntmps79
    go_wp2
    go_ret
    rw [e1]
    exact ⟨rfl, HR.out, grown_refl _ _⟩
  · have hd : decide (zs.length < 2) = false := decide_eq_false h2
    go_enter Try.func79, Try.ntmps79
    go_wp2
    go_loopg [3] zs.length (fun kq v3 w' => ∃ k : Nat, v3 = .int .i64 (k : Int) ∧ Aside0 (kq + k = zs.length + 1 ∧ 1 ≤ k ∧ 1 ≤ kq) ∧ Aside0 (cmpL (zs.take k) = zs.take k) ∧ Aside0 (RowP w' g cap zs) ∧ Aside0 (w.grownBy w' (some g)))
    case atStart => exact ⟨1, rfl, ⟨by omega⟩, ⟨by cases zs with | nil => rfl | cons x zs => rfl⟩, HR, ⟨grown_refl _ _⟩⟩
    case round =>
      clear HR
      obtain ⟨k, rfl, HK, HE, HR, HG⟩ := hrel
      by_cases hlt : k < zs.length
      · have hd1 : decide (k < zs.length) = true := decide_eq_true hlt
        obtain ⟨j, hj⟩ : ∃ j, k = j + 1 := ⟨k - 1, by have := HK.out; omega⟩
        obtain ⟨x, hx⟩ : ∃ x, zs[k]? = some x := ⟨zs[k], List.getElem?_eq_getElem hlt⟩
        obtain ⟨y, hy⟩ : ∃ y, zs[j]? = some y := ⟨zs[j]'(by omega), List.getElem?_eq_getElem _⟩
        obtain ⟨cx1, cx2⟩ := HR.out.cells hx
        obtain ⟨cy1, cy2⟩ := HR.out.cells hy
        have HX := Aside0.mk (cmpL_next hy (hj ▸ hx))
        have w1 : IntKind.i64.wrap ((k : Int) - 1) = (j : Int) := by rw [show (k : Int) - 1 = (j : Int) by omega]; exact IntWalk.i64_in _ (by omega)
        have i2 : j < zs.length := by omega
        have HXY := Aside0.mk (And.intro hx hy)
        have HJ := Aside0.mk hj
        clear hx hy hj
        have hu27 := Try.underlying27
        by_cases hxy : y = x
        · have hb : (x.1 == y.1 && (x.2 == y.2)) = true := by rw [pair_beq]; exact decide_eq_true hxy
          have HE2 : Aside0 (cmpL (zs.take (k + 1)) = zs.take k) := ⟨by have := HX.out; rw [if_pos hxy] at this; have hj := HJ.out; subst hj; exact this.trans HE.out⟩
          clear hxy
          go_upto_region 6 with fail
          go_quiet (fail)
          go_wp2
          · exfalso
            have := HC.out
            omega
          have HI0 : Aside0 (cmpL (zs.take (k + 1)) ++ zs.drop (cmpL (zs.take (k + 1))).length = zs ∧ (cmpL (zs.take (k + 1))).length = k) := ⟨by
            rw [HE2.out, List.length_take, Nat.min_eq_left (by omega)]
            exact ⟨List.take_append_drop k zs, rfl⟩⟩
          clear HE HE2 HX HXY hb cx1 cx2 cy1 cy2 i2 w1
          go_loopg [3, 5] (zs.length - k) (fun kq v3 v5 w' => ∃ (k2 c : Nat), v3 = .int .i64 (c : Int) ∧ v5 = .int .i64 (k2 : Int) ∧ Aside0 (kq + k2 = zs.length - k + 1 ∧ 1 ≤ k2 ∧ 1 ≤ kq ∧ k + k2 ≤ zs.length) ∧ Aside0 ((cmpL (zs.take (k + k2))).length = c ∧ c < k + k2) ∧ Aside0 (RowP w' g cap (cmpL (zs.take (k + k2)) ++ zs.drop (cmpL (zs.take (k + k2))).length)) ∧ Aside0 (w.grownBy w' (some g)))
          case atStart => exact ⟨1, k, (by go_num), rfl, ⟨by omega⟩, ⟨HI0.out.2, by omega⟩, ⟨by rw [HI0.out.1]; exact HR.out.drewN _⟩, ⟨grown_drewN HG.out _⟩⟩
          case round =>
            clear HR HG HI0
            obtain ⟨k2, c, rfl, rfl, HK2, HL, HR, HG⟩ := hrel
            by_cases hlt2 : k + k2 < zs.length
            · have hd2 : decide (k2 < zs.length - k) = true := decide_eq_true (by omega)
              have hd3 : k2 < zs.length - k := by omega
              obtain ⟨j2, hj2⟩ : ∃ j2, k2 = j2 + 1 := ⟨k2 - 1, by have := HK2.out; omega⟩
              obtain ⟨x2, hx⟩ : ∃ x2, zs[k + k2]? = some x2 := ⟨zs[k + k2], List.getElem?_eq_getElem hlt2⟩
              obtain ⟨y2, hy⟩ : ∃ y2, zs[k + j2]? = some y2 := ⟨zs[k + j2]'(by omega), List.getElem?_eq_getElem _⟩
              have hll := HL.out
              obtain ⟨cx1, cx2⟩ := HR.out.cells (mid_get (by omega) hx)
              obtain ⟨cy1, cy2⟩ := HR.out.cells (mid_get (by omega) hy)
              have HX := Aside0.mk (cmpL_next hy (show zs[k + j2 + 1]? = some x2 by rw [show k + j2 + 1 = k + k2 by omega]; exact hx))
              have w1 : IntKind.i64.wrap ((k2 : Int) - 1) = (j2 : Int) := by rw [show (k2 : Int) - 1 = (j2 : Int) by omega]; exact IntWalk.i64_in _ (by omega)
              have i2 : j2 < zs.length - k := by omega
              rw [show (k + k2) * 2 = k * 2 + k2 * 2 by omega] at cx1 cx2
              rw [show (k + j2) * 2 = k * 2 + j2 * 2 by omega] at cy1 cy2
              have HJ2 := Aside0.mk hj2
              have HX2 := Aside0.mk hx
              have hic : c < zs.length := by omega
              have fc1 := HR.out.frozen (c * 2)
              have fc2 := HR.out.frozen (c * 2 + 1)
              have HLT2 := Aside0.mk hlt2
              have e3 : k + (k2 + 1) = k + j2 + 2 := by omega
              have HE3 := Aside0.mk e3
              clear hx hy hj2 hll hlt2 e3
              by_cases hxy : y2 = x2
              · have hb : (x2.1 == y2.1 && (x2.2 == y2.2)) = true := by rw [pair_beq]; exact decide_eq_true hxy
                have HN : Aside0 (cmpL (zs.take (k + (k2 + 1))) = cmpL (zs.take (k + k2))) := ⟨by rw [HE3.out, HX.out, if_pos hxy, show k + j2 + 1 = k + k2 by have := HJ2.out; omega]⟩
                clear hxy
                go_upto_region 11 with fail
                go_quiet (fail)
                go_wp2
                go_roundg (zs.length - k - k2)
                case measure => have := HK2.out; omega
                case rel => exact ⟨k2 + 1, c, rfl, (by go_num), ⟨by have := HK2.out; have := HLT2.out; omega⟩, ⟨by rw [HN.out]; have := HL.out; omega⟩, ⟨by rw [HN.out]; exact HR.out.drewN _⟩, ⟨grown_drewN HG.out _⟩⟩
              · have hb : (x2.1 == y2.1 && (x2.2 == y2.2)) = false := by rw [pair_beq]; exact decide_eq_false hxy
                have HN : Aside0 (cmpL (zs.take (k + (k2 + 1))) = cmpL (zs.take (k + k2)) ++ [x2]) := ⟨by rw [HE3.out, HX.out, if_neg hxy, show k + j2 + 1 = k + k2 by have := HJ2.out; omega]⟩
                clear hxy
                have hcs : (wr.cell? ⟨g, c * 2, none⟩).isSome = true := HR.out.some_ (by simp only [List.length_append, List.length_drop]; have := HL.out; omega)
                have hcs2 : (wr.cell? ⟨g, c * 2 + 1, none⟩).isSome = true := HR.out.some_ (by simp only [List.length_append, List.length_drop]; have := HL.out; omega)
                obtain ⟨o1, ho1⟩ := Option.isSome_iff_exists.mp hcs
                obtain ⟨o2, ho2⟩ := Option.isSome_iff_exists.mp hcs2
                clear hcs hcs2
                go_upto_region 11 with fail
                go_quiet (fail)
                go_wp2
                have hS := RowP.set (HR.out.drewN nq) (i := c) (by simp only [List.length_append, List.length_drop]; have := HL.out; omega) x2
                rw [show (cmpL (zs.take (k + k2)) ++ zs.drop (cmpL (zs.take (k + k2))).length).set c x2 = (cmpL (zs.take (k + k2)) ++ [x2]) ++ zs.drop (cmpL (zs.take (k + k2)) ++ [x2]).length from by have hl := HL.out; rw [← hl.1]; exact mid_set (by omega)] at hS
                have HS := Aside0.mk hS
                clear hS
                go_roundg (zs.length - k - k2)
                case measure => have := HK2.out; omega
                case rel => exact ⟨k2 + 1, c + 1, (by go_num), (by go_num), ⟨by have := HK2.out; have := HLT2.out; omega⟩, ⟨by rw [HN.out, List.length_append]; have := HL.out; simp only [List.length_singleton]; omega⟩, ⟨by rw [HN.out]; exact HS.out⟩, ⟨grown_set (grown_set (grown_drewN HG.out _) _ _) _ _⟩⟩
            · have hd2 : decide (k2 < zs.length - k) = false := decide_eq_false (by omega)
              have hend : zs.take (k + k2) = zs := List.take_of_length_le (by omega)
              have hR3 := HR.out
              rw [hend] at hR3
              have hL3 : (cmpL zs).length = c ∧ c < zs.length := by have h1 := HL.out; have h2 := HK2.out; rw [hend] at h1; exact ⟨h1.1, by omega⟩
              obtain ⟨vs, hcl⟩ : ∃ vs, ∀ ty, (Builtin.clear_ #[37] ty #[.slice (some ⟨g, c * 2, none⟩) (zs.length - c) (cap - c)]).run Try.prog wr = .ok (.tuple #[]) (wr.setCells g (c * 2) vs) := by
                obtain ⟨vs, h⟩ := run_clear_pairs wr 0 g (c * 2) (zs.length - c) (cap - c) (by omega) (fun j hj => hR3.some_ (by simp only [List.length_append, List.length_drop]; omega)) (fun j hj => hR3.frozen _)
                exact ⟨vs, fun ty => h⟩
              have HR4 : Aside0 (RowP (wr.setCells g (c * 2) vs) g cap (cmpL zs)) := ⟨RowP.fars vs (c * 2) hR3.cut (by omega)⟩
              have HG4 := Aside0.mk (grown_sets vs (c * 2) HG.out)
              have hic : c < zs.length := hL3.2
              have hic2 : c ≤ zs.length := by omega
              have hic3 : c ≤ cap := by have := HC.out; omega
              have HL4 := Aside0.mk hL3.1
              clear hend hR3 hL3 hlt2
              go_wp2
              · exfalso
                have := HC.out
                omega
              go_ret
              rw [HL4.out]
              exact ⟨rfl, HR4.out, HG4.out⟩
        · have hb : (x.1 == y.1 && (x.2 == y.2)) = false := by rw [pair_beq]; exact decide_eq_false hxy
          have HE2 : Aside0 (cmpL (zs.take (k + 1)) = zs.take (k + 1)) := ⟨by
            have h1 := HX.out
            rw [if_neg hxy] at h1
            have hj := HJ.out
            subst hj
            rw [show j + 1 + 1 = j + 2 from rfl, h1, HE.out]
            exact (take_snoc HXY.out.1).symm⟩
          clear hxy
          go_upto_region 6 with fail
          go_quiet (fail)
          go_wp2
          go_roundg (zs.length - k)
          case measure => have := HK.out; omega
          case rel => exact ⟨k + 1, (by go_num), ⟨by have := HK.out; omega⟩, HE2, ⟨HR.out.drewN _⟩, ⟨grown_drewN HG.out _⟩⟩
      · have hd1 : decide (k < zs.length) = false := decide_eq_false hlt
        have HE3 := HE.out
        rw [List.take_of_length_le (by omega)] at HE3
        have HE4 := Aside0.mk HE3
        clear HE3 hlt
        go_wp2
        go_ret
        rw [HE4.out]
        exact ⟨rfl, HR.out, HG.out⟩
end Go.Proofs.Ythloakjlpblakaa.PB
