/- Rows of fuses in memory. Conditions: those each lemma names. -/
import Derived.Test.YthloakjlpblakaaVNextTimeHandD
import Derived.Outline
set_option linter.unusedVariables false
set_option linter.unusedSimpArgs false
namespace Go.Proofs.Ythloakjlpblakaa.PB
open Go.RowKit Go.Proofs.YthloakjlpblakaaW.PrintWords Go.Proofs.YthloakjlpblakaaW.PrintLast Go.Proofs.YthloakjlpblakaaW.PrintMore Go.Proofs.YthloakjlpblakaaX

/-- The blocks of memory in which a fuse lies are all of a kind. -/
def FAtP (w : World) (P : Nat → Prop) : FT → Nat → Prop
  | .spark, g => P g ∧ w.heap[g]? = some (.cells #[.pointer none, .pointer none, .string ⟨#[46]⟩, .int .i64 0, .int .i64 1, .int .i64 0] 66 (0, 0))
  | .node n d a b, g => P g ∧ ∃ ga gb, w.heap[g]? = some (.cells #[.pointer (some ⟨ga, 0, none⟩), .pointer (some ⟨gb, 0, none⟩), .string (FT.node n d a b).text, .int .i64 n, .int .i64 d, .int .i64 ((FT.node n d a b).ropes : Nat)] 66 (0, 0)) ∧ FAtP w P a ga ∧ FAtP w P b gb
theorem FAtP.at_ {w : World} {P : Nat → Prop} : ∀ {t : FT} {g : Nat}, FAtP w P t g → FAt w t g
  | .spark, _, h => h.2
  | .node _ _ _ _, _, ⟨_, ga, gb, h1, h2, h3⟩ => ⟨ga, gb, h1, FAtP.at_ h2, FAtP.at_ h3⟩
theorem FAtP.mono {w : World} {P Q : Nat → Prop} (hPQ : ∀ k, P k → Q k) : ∀ {t : FT} {g : Nat}, FAtP w P t g → FAtP w Q t g
  | .spark, _, h => ⟨hPQ _ h.1, h.2⟩
  | .node _ _ _ _, _, ⟨h0, ga, gb, h1, h2, h3⟩ => ⟨hPQ _ h0, ga, gb, h1, FAtP.mono hPQ h2, FAtP.mono hPQ h3⟩
theorem FAtP.move {w w1 : World} {P : Nat → Prop} (hm : ∀ k, P k → w1.heap[k]? = w.heap[k]?) : ∀ {t : FT} {g : Nat}, FAtP w P t g → FAtP w1 P t g
  | .spark, _, h => ⟨h.1, (hm _ h.1).trans h.2⟩
  | .node _ _ _ _, _, ⟨h0, ga, gb, h1, h2, h3⟩ => ⟨h0, ga, gb, (hm _ h0).trans h1, FAtP.move hm h2, FAtP.move hm h3⟩
theorem FAtP.bound {w : World} {P : Nat → Prop} : ∀ {t : FT} {g : Nat}, FAtP w P t g → FAtP w (fun k => P k ∧ k < w.heap.size ∧ ∃ cells, w.heap[k]? = some (.cells cells 66 (0, 0))) t g
  | .spark, _, h => ⟨⟨h.1, blk_lt h.2, _, h.2⟩, h.2⟩
  | .node _ _ _ _, _, ⟨h0, ga, gb, h1, h2, h3⟩ => ⟨⟨h0, blk_lt h1, _, h1⟩, ga, gb, h1, FAtP.bound h2, FAtP.bound h3⟩
theorem FAtP.below {w w1 : World} {P : Nat → Prop} (hb : Below w.heap.size w w1) {t : FT} {g : Nat} (h : FAtP w P t g) : FAtP w1 P t g :=
  FAtP.mono (fun _ hk => hk.1) (FAtP.move (w := w) (fun k hk => hb.block k hk.2.1) (FAtP.bound h))
/-- The kind of a pointer to a fuse. -/
def kF : Kd FT where
  sz := 1
  E := [66]
  K := fun w x cs => ∃ g, cs = [.pointer (some ⟨g, 0, none⟩)] ∧ FAt w x g ∧ x.ropes ≤ 8
  M := fun w base ok x cs => ∃ g, cs = [.pointer (some ⟨g, 0, none⟩)] ∧ FAtP w (fun k => ok k ∧ base ≤ k) x g ∧ x.ropes ≤ 8
  K_len := by
    rintro w x cs ⟨g, rfl, _⟩
    rfl
  K_one := by
    rintro w x cs ⟨g, rfl, _⟩ u hu
    rw [List.mem_singleton.1 hu]
    rfl
  K_below := by
    rintro w w1 x cs hb ⟨g, rfl, h, hr⟩
    exact ⟨g, rfl, h.below hb, hr⟩
  K_of_M := by
    rintro w base ok x cs ⟨g, rfl, h, hr⟩
    exact ⟨g, rfl, h.at_, hr⟩
  M_mono := by
    rintro w base ok ok' x cs hok ⟨g, rfl, h, hr⟩
    exact ⟨g, rfl, h.mono (fun k hk => ⟨hok k hk.1, hk.2⟩), hr⟩
  M_bound := by
    rintro w base ok x cs ⟨g, rfl, h, hr⟩
    exact ⟨g, rfl, h.bound.mono (fun k hk => ⟨⟨hk.1.1, hk.1.2, hk.2.1, 66, List.mem_singleton.2 rfl, hk.2.2⟩, hk.1.2⟩), hr⟩
  M_move := by
    rintro w w1 base ok x cs hm ⟨g, rfl, h, hr⟩
    exact ⟨g, rfl, h.move (fun k hk => hm k hk.1), hr⟩
  M_lower := by
    rintro w base base' ok x cs hb ⟨g, rfl, h, hr⟩
    exact ⟨g, rfl, h.mono (fun k hk => ⟨hk.1, Nat.le_trans hb hk.2⟩), hr⟩
/-- An element of a row of the call's own. -/
theorem R_get {α : Type} {d : Kd α} {e : Nat} {w : World} {base : Nat} {ok : Nat → Prop} {v : Value} {xs : List α} (h : d.R e w base ok v xs) (i : Nat) (x : α) (hi : xs[i]? = some x) :
    ∃ ad cap c, v = .slice (some ad) xs.length cap ∧ d.M w base (fun k => ok k ∧ some k ≠ v.ownBlock) x c ∧ ∀ j u, c[j]? = some u → w.cell? (ad.add (i * d.sz + j)) = some u := by
  obtain ⟨h0, inner, ho, hr⟩ := h
  obtain ⟨A, cap, rfl, hrd⟩ := own_reads_row ho hr rfl
  have hl := (List.getElem?_eq_some_iff.1 hi).1
  obtain ⟨ad, rfl, hc⟩ := hrd.2.2 (by omega)
  obtain ⟨c, _, hM, hcell⟩ := hc i x hi
  exact ⟨ad, cap, c, rfl, hM, hcell⟩
/-- Rows of other types lie apart. -/
theorem R_typed {α β : Type} {d : Kd α} {d' : Kd β} {e e' : Nat} {w : World} {b b' : Nat} {ok ok' : Nat → Prop} {v u : Value} {xs : List α} {ys : List β} (h : d.R e w b ok v xs) (h' : d'.R e' w b' ok' u ys) (ht : ∀ q, q ∈ e :: d.E → q ≠ e') : d.R e w b (fun k => ok k ∧ some k ≠ u.ownBlock) v xs :=
  Kd.R_mono (Kd.R_bound h) (fun k hk => ⟨hk.1, fun he => by
    obtain ⟨_, _, _, q, hq, cells, hc⟩ := hk
    obtain ⟨inner, ho⟩ := Kd.R_own h'
    obtain ⟨cells', hc'⟩ := own_typed ho k he.symm
    rw [hc] at hc'
    injection hc' with hc'
    injection hc' with _ hc'
    exact ht q hq hc'⟩)
/-- Two fuses of the call's own, joined. -/
theorem join_own_none (k : Nat) (w : World) (P : Nat → Prop) (ga gb : Nat) (a b : FT) (ha : FAtP w P a ga) (ra : a.ropes ≤ 8) (hb : FAtP w P b gb) (rb : b.ropes ≤ 8) (h : FT.join k (some a) (some b) = some none) :
    Calls Try.prog 75 #[.pointer (some ⟨ga, 0, none⟩), .pointer (some ⟨gb, 0, none⟩)] w fun e w' => e = .returned (.pointer none) ∧ Below w.heap.size w w' :=
  (join_calls k w (some ga) (some gb) (some a) (some b) none ⟨ha.at_, ra⟩ ⟨hb.at_, rb⟩ h).mono fun e w' ⟨o, h1, h2, h3⟩ => by
    cases o with
    | none => exact ⟨h1, h3⟩
    | some g => exact h2.elim
theorem join_own_some (k : Nat) (w : World) (P : Nat → Prop) (hP : ∀ k, w.heap.size ≤ k → P k) (ga gb : Nat) (a b f : FT) (ha : FAtP w P a ga) (ra : a.ropes ≤ 8) (hb : FAtP w P b gb) (rb : b.ropes ≤ 8) (h : FT.join k (some a) (some b) = some (some f)) :
    Calls Try.prog 75 #[.pointer (some ⟨ga, 0, none⟩), .pointer (some ⟨gb, 0, none⟩)] w fun e w' => ∃ g, e = .returned (.pointer (some ⟨g, 0, none⟩)) ∧ FAtP w' P f g ∧ f.ropes ≤ 8 ∧ Below w.heap.size w w' := by
  obtain ⟨va, wa, cA⟩ := ha.at_.cells
  obtain ⟨vb, wb, cB⟩ := hb.at_.cells
  simp only [FT.join] at h
  by_cases hr : a.ropes + b.ropes < 8
  · rw [if_pos hr] at h
    obtain ⟨⟨n, d, ok⟩, hf, h⟩ := Option.bind_eq_some_iff.mp h
    simp only [Option.some.injEq] at h
    have sa := a.text_size
    have sb := b.text_size
    cases ok with
    | false => simp at h
    | true =>
      rw [if_pos rfl] at h
      obtain rfl := Option.some.inj h
      refine (join_two k w ga gb va wa vb wb a.text b.text _ _ _ _ _ _ cA cB (by omega) (by omega) (by omega) (by omega) (by omega) n d hf (by omega) (by omega)).mono fun e w' ⟨g, h1, hg, h2, h3⟩ => ⟨g, h1, ⟨hP g hg, ga, gb, ?_, ha.below h3, hb.below h3⟩, ?_, h3⟩
      · rw [h2]; rfl
      · simp only [FT.ropes]; omega
  · rw [if_neg hr] at h
    simp at h
/-! ### All fuses with so many ropes -/
def rB (K : Nat) (a : FT) : List FT → List FT → Option (List FT)
  | [], lv => some lv
  | b :: bs, lv => (FT.join K (some a) (some b)).bind fun z => match z with
    | none => rB K a bs lv
    | some f => if lv.length < 17592186044416 then rB K a bs (lv ++ [f]) else none
def rA (K : Nat) : List FT → List FT → List FT → Option (List FT)
  | [], _, lv => some lv
  | a :: xs, bs, lv => (rB K a bs lv).bind fun l => rA K xs bs l
def rK (K : Nat) (outs : List (List FT)) (n : Nat) : Nat → Nat → List FT → Option (List FT)
  | 0, _, lv => some lv
  | d + 1, k, lv => (rA K (outs.getD k []) (outs.getD (n - 1 - k) []) lv).bind fun l => rK K outs n d (k + 1) l
def rN (K : Nat) : Nat → Nat → List (List FT) → Option (List (List FT))
  | 0, _, outs => some outs
  | d + 1, n, outs => (rK K outs n n 0 []).bind fun lv => rN K d (n + 1) (outs ++ [lv])
def allF (K most : Nat) : Option (List (List FT)) := rN K most 1 [[.spark]]
def outR (w W : World) (ok : Nat → Prop) (v : Value) (outs : List (List FT)) : Prop := Kd.R (Kd.slice 63 kF) 56 W w.heap.size ok v outs
theorem info56 : (Try.prog.info? 56).map (fun i => (i.zero, i.size, i.bytes)) = some (some (.slice none 0 0), 1, 24) := by kernel_rfl
theorem info63 : (Try.prog.info? 63).map (fun i => (i.zero, i.size, i.bytes)) = some (some (.pointer none), 1, 8) := by kernel_rfl
set_option maxHeartbeats 8000000 in
set_option maxRecDepth 100000 in
theorem allF_calls (K most : Nat) (hm : most ≤ 8) (w : World) (r : List (List FT)) (h : allF K most = some r) :
    Calls Try.prog 50 #[.int .i64 (most : Int)] w fun e w' => ∃ v, e = .returned v ∧ outR w w' (fun _ => True) v r ∧ Below w.heap.size w w' := by
  have H := Aside0.mk h
  clear h
  unfold allF at H
  go_enter Try.func50, Try.ntmps50
  go_wp2_with (first
    | (go_at_call 74; (with_reducible refine (spark_calls _).mono ?_); rintro e w1 ⟨rfl, e1⟩; subst e1; have HS : Aside0 (FAtP (w.alloc (.cells #[.pointer none, .pointer none, .string ⟨#[46]⟩, .int .i64 0, .int .i64 1, .int .i64 0] 66 (0, 0))) (fun k => True ∧ w.heap.size ≤ k) .spark w.heap.size) := ⟨⟨⟨trivial, Nat.le_refl _⟩, blk_new _ _⟩⟩; have HB := Aside0.mk (below_alloc (Below.refl w.heap.size w) (.cells #[.pointer none, .pointer none, .string ⟨#[46]⟩, .int .i64 0, .int .i64 1, .int .i64 0] 66 (0, 0))); generalize w.alloc (.cells #[.pointer none, .pointer none, .string ⟨#[46]⟩, .int .i64 0, .int .i64 1, .int .i64 0] 66 (0, 0)) = w1 at HS HB ⊢)
    | ((with_reducible refine gate_dst (N := 13) rfl ?_); refine Kd.R_lit kF w.heap.size 63 ?hg (N := 13) ?hd (xs := [FT.spark]) (inner := [.pointer (some ⟨w.heap.size, 0, none⟩)]) (ok := fun _ => True) (okp := fun _ => True) ?hr ?hp (fun _ hk => hk) trivial HB.out (below_size HB.out) (by simp) ?_; (case hd => rfl); (case hg => rfl); (case hr => first | (go_simp; done) | (go_simp; rfl)); (case hp => exact (Reps.one (show Kd.M kF _ _ _ FT.spark [.pointer (some ⟨w.heap.size, 0, none⟩)] from ⟨w.heap.size, rfl, HS.out, by decide⟩) (Reps.none _ _))); intro v13 w2 ho hb hg_ hnew_; clear hg_ hnew_; clear HB HS; obtain ⟨A13, c13, e13⟩ := Kd.R_slice ho; subst e13; have HL := Aside0.mk ho; have HB := Aside0.mk hb; clear ho hb)
    | ((with_reducible refine gate_dst (N := 14) rfl ?_); refine Kd.R_lit (Kd.slice 63 kF) w.heap.size 56 ?hg (N := 14) ?hd (xs := [[FT.spark]]) (inner := [.slice A13 1 c13]) (ok := fun _ => True) (okp := fun _ => True) ?hr ?hp (fun _ hk => hk) trivial HB.out (below_size HB.out) (by simp) ?_; (case hd => rfl); (case hg => rfl); (case hr => first | (go_simp; done) | (go_simp; rfl)); (case hp => exact (Reps.one (show Kd.M (Kd.slice 63 kF) _ _ _ [FT.spark] [.slice A13 1 c13] from ⟨_, rfl, HL.out⟩) (Reps.none _ _))); intro v14 w3 ho hb hg_ hnew_; clear hg_ hnew_; clear HB HL; have HO := Aside0.mk (show outR w w3 (fun _ => True) v14 [[FT.spark]] from ho); have HB := Aside0.mk hb; clear ho hb))
  go_loopg [3, 4] (most + 1) (fun kq v3 v4 w' => ∃ (n : Nat) (outs : List (List FT)), v4 = .int .i64 (n : Int) ∧ Aside0 (rN K (kq - 1) n outs = some r) ∧ Aside0 (kq + n = most + 2 ∧ 1 ≤ n ∧ 1 ≤ kq ∧ outs.length = n) ∧ Aside0 (outR w w' (fun _ => True) v3 outs) ∧ Aside0 (Below w.heap.size w w'))
  case atStart => exact ⟨1, [[FT.spark]], rfl, ⟨H.out⟩, ⟨by simp⟩, HO, HB⟩
  case round =>
    clear H HO HB
    obtain ⟨n, outs, rfl, H, HK, HO, HB⟩ := hrel
    by_cases hn : n ≤ most
    · have hd1 : decide (n ≤ most) = true := decide_eq_true hn
      obtain ⟨d, hd⟩ : ∃ d, gk = d + 2 := ⟨gk - 2, by have := HK.out; omega⟩
      subst hd
      have h1 := H.out
      rw [show d + 2 - 1 = d + 1 from rfl] at h1
      simp only [rN] at h1
      obtain ⟨lv, hlv, h2⟩ := Option.bind_eq_some_iff.mp h1
      have HLV := Aside0.mk hlv
      have HN := Aside0.mk h2
      have hnm := Aside0.mk hn
      clear hlv h2 h1 H hn
      go_wp2_with ((with_reducible refine gate_dst (N := 20) rfl ?_); refine Kd.R_lit kF _ 63 ?hg (N := 20) ?hd (xs := ([] : List FT)) (inner := []) (ok := fun _ => True) (okp := fun _ => True) ?hr ?hp (fun _ hk => hk) trivial (Below.refl _ _) (Nat.le_refl _) (by simp) ?_; (case hd => rfl); (case hg => rfl); (case hr => first | (go_simp; done) | (go_simp; rfl)); (case hp => exact (Reps.none _ _)); intro v20 w4 ho hb hg_ hnew_; clear hg_ hnew_; have HO2 := Aside0.mk (show outR w w4 (fun k => True ∧ some k ≠ v20.ownBlock) _ outs from Kd.R_elder HO.out ho hb); have HL := Aside0.mk (Kd.R_lower ho (below_size HB.out)); have HB2 := Aside0.mk (below_step HB.out hb); clear ho hb HO HB)
      have HK0 := HK
      clear HK
      go_loopg [5, 22] (n + 1) (fun kq v5 v22 w' => ∃ (k : Nat) (lw : List FT), v22 = .int .i64 (k : Int) ∧ Aside0 (rK K outs n (kq - 1) k lw = some lv) ∧ Aside0 (kq + k = n + 1 ∧ 1 ≤ kq) ∧ Aside0 (outR w w' (fun j => True ∧ some j ≠ v5.ownBlock) u3 outs) ∧ Aside0 (Kd.R kF 63 w' w.heap.size (fun _ => True) v5 lw) ∧ Aside0 (Below w.heap.size w w'))
      case atStart => exact ⟨0, [], rfl, ⟨HLV.out⟩, ⟨by omega⟩, HO2, HL, HB2⟩
      case round =>
        clear HLV HO2 HL HB2
        obtain ⟨k, lw, rfl, H, HK, HO, HL, HB⟩ := hrel
        by_cases hk : k < n
        · have hd2 : decide (k < n) = true := decide_eq_true hk
          obtain ⟨e, he⟩ : ∃ e, gk = e + 2 := ⟨gk - 2, by have := HK.out; omega⟩
          subst he
          have h1 := H.out
          rw [show e + 2 - 1 = e + 1 from rfl] at h1
          simp only [rK] at h1
          obtain ⟨l2, hl2, h2⟩ := Option.bind_eq_some_iff.mp h1
          have hol : outs.length = n := HK0.out.2.2.2
          obtain ⟨xs, hxs⟩ : ∃ xs, outs[k]? = some xs := ⟨outs[k], List.getElem?_eq_getElem (by omega)⟩
          obtain ⟨ys, hys⟩ : ∃ ys, outs[n - 1 - k]? = some ys := ⟨outs[n - 1 - k], List.getElem?_eq_getElem (by omega)⟩
          rw [List.getD_eq_getElem?_getD, List.getD_eq_getElem?_getD, hxs, hys] at hl2
          have HL2 := Aside0.mk (show rA K xs ys lw = some l2 from hl2)
          have HREST := Aside0.mk h2
          have HYS := Aside0.mk hys
          obtain ⟨ad, cap, c, e3, hM, hc⟩ := R_get HO.out k xs hxs
          subst e3
          obtain ⟨v28, rfl, hR28⟩ := hM
          obtain ⟨A28, c28, rfl⟩ := Kd.R_slice hR28
          have HX := Aside0.mk (Kd.R_mono hR28 (fun _ hk => hk.1))
          have cell28 : wr.cell? (ad.add k) = some (.slice A28 xs.length c28) := by have := hc 0 _ rfl; simpa [Kd.slice] using this
          have i1 : k < outs.length := by omega
          have HKN := Aside0.mk hk
          have HOL := Aside0.mk hol
          clear h1 h2 hl2 hxs hys hR28 hc H hk hol
          go_wp2_with fail
          clear cell28 i1
          have HK2 := HK
          clear HK
          go_loopg [5, 30] (xs.length + 1) (fun kq v5 v30 w' => ∃ (i : Nat) (l1 : List FT), v30 = .int .i64 (i : Int) ∧ Aside0 (rA K (xs.drop i) ys l1 = some l2) ∧ Aside0 (kq + i = xs.length + 1 ∧ 1 ≤ kq) ∧ Aside0 (outR w w' (fun j => True ∧ some j ≠ v5.ownBlock) (.slice (some ad) outs.length cap) outs) ∧ Aside0 (Kd.R kF 63 w' w.heap.size (fun _ => True) v5 l1) ∧ Aside0 (Kd.R kF 63 w' w.heap.size (fun j => True ∧ some j ≠ v5.ownBlock) (.slice A28 xs.length c28) xs) ∧ Aside0 (Below w.heap.size w w'))
          case atStart => exact ⟨0, lw, rfl, HL2, ⟨by omega⟩, HO, HL, HX, HB⟩
          case round =>
            clear HL2 HO HL HX HB
            obtain ⟨i, l1, rfl, H, HK, HO, HL, HX, HB⟩ := hrel
            by_cases hi : i < xs.length
            · have hd3 : decide (i < xs.length) = true := decide_eq_true hi
              obtain ⟨e, he⟩ : ∃ e, gk = e + 1 := ⟨gk - 1, by have := HK.out; omega⟩
              subst he
              obtain ⟨a, hxa⟩ : ∃ a, xs[i]? = some a := ⟨xs[i], List.getElem?_eq_getElem hi⟩
              have hdr : xs.drop i = a :: xs.drop (i + 1) := by
                rw [List.drop_eq_getElem_cons hi]
                rw [List.getElem?_eq_getElem hi] at hxa
                rw [Option.some.inj hxa]
              have h1 := H.out
              rw [hdr] at h1
              simp only [rA] at h1
              obtain ⟨l3, hl3, h2⟩ := Option.bind_eq_some_iff.mp h1
              have HL3 := Aside0.mk hl3
              have HREST3 := Aside0.mk h2
              obtain ⟨ad8, cap8, c8, e8, hM, hc⟩ := R_get HX.out i a hxa
              injection e8 with e8a e8b e8c
              subst e8a e8c
              obtain ⟨ga, rfl, hFa, hra⟩ := hM
              have HA : Aside0 (kF.M wr w.heap.size (fun j => True ∧ some j ≠ u5.ownBlock) a [.pointer (some ⟨ga, 0, none⟩)]) := ⟨ga, rfl, hFa.mono (fun _ hk => ⟨hk.1.1, hk.2⟩), hra⟩
              have cell33 : wr.cell? (ad8.add i) = some (.pointer (some ⟨ga, 0, none⟩)) := by have := hc 0 _ rfl; simpa [kF] using this
              obtain ⟨ad9, cap9, c9, e9, hM9, hc9⟩ := R_get HO.out (n - 1 - k) ys HYS.out
              injection e9 with e9a e9b e9c
              injection e9a with e9a
              subst e9a e9c
              obtain ⟨v40, rfl, hR40⟩ := hM9
              obtain ⟨A40, c40, rfl⟩ := Kd.R_slice hR40
              have HY := Aside0.mk (Kd.R_mono hR40 (fun _ hk => hk.1))
              have cell40 : wr.cell? (ad.add (n - 1 - k)) = some (.slice A40 ys.length c40) := by have := hc9 0 _ rfl; simpa [Kd.slice] using this
              have hkn := HKN.out
              have hol := HOL.out
              have hnm2 := hnm.out
              have i2 : (0 : Int) ≤ (n : Int) - 1 - (k : Int) := by omega
              have i3 : (n : Int) - 1 - (k : Int) < (outs.length : Int) := by omega
              have i4 : 0 ≤ (n : Int) - 1 := by omega
              clear hc hc9 h1 h2 hl3 hdr hxa hFa hR40 H hol
              go_wp2_with fail
              clear cell33 cell40 i2 i3 i4 hnm2 hkn
              have HK3 := HK
              clear HK
              go_loopg [5, 42] (ys.length + 1) (fun kq v5 v42 w' => ∃ (j : Nat) (l0 : List FT), v42 = .int .i64 (j : Int) ∧ Aside0 (rB K a (ys.drop j) l0 = some l3) ∧ Aside0 (kq + j = ys.length + 1 ∧ 1 ≤ kq) ∧ Aside0 (outR w w' (fun j => True ∧ some j ≠ v5.ownBlock) (.slice (some ad) outs.length cap) outs) ∧ Aside0 (Kd.R kF 63 w' w.heap.size (fun _ => True) v5 l0) ∧ Aside0 (Kd.R kF 63 w' w.heap.size (fun j => True ∧ some j ≠ v5.ownBlock) (.slice (some ad8) xs.length c28) xs) ∧ Aside0 (Kd.R kF 63 w' w.heap.size (fun j => True ∧ some j ≠ v5.ownBlock) (.slice A40 ys.length c40) ys) ∧ Aside0 (kF.M w' w.heap.size (fun j => True ∧ some j ≠ v5.ownBlock) a [.pointer (some ⟨ga, 0, none⟩)]) ∧ Aside0 (Below w.heap.size w w'))
              case atStart => exact ⟨0, l1, rfl, HL3, ⟨by omega⟩, HO, HL, HX, HY, HA, HB⟩
              case round =>
                clear HL3 HO HL HX HY HA HB
                obtain ⟨j, l0, rfl, H, HK, HO, HL, HX, HY, HA, HB⟩ := hrel
                by_cases hj : j < ys.length
                · have hd4 : decide (j < ys.length) = true := decide_eq_true hj
                  obtain ⟨e, he⟩ : ∃ e, gk = e + 1 := ⟨gk - 1, by have := HK.out; omega⟩
                  subst he
                  obtain ⟨b, hyb⟩ : ∃ b, ys[j]? = some b := ⟨ys[j], List.getElem?_eq_getElem hj⟩
                  have hdr : ys.drop j = b :: ys.drop (j + 1) := by
                    rw [List.drop_eq_getElem_cons hj]
                    rw [List.getElem?_eq_getElem hj] at hyb
                    rw [Option.some.inj hyb]
                  have h1 := H.out
                  rw [hdr] at h1
                  simp only [rB] at h1
                  obtain ⟨z, hz, h2⟩ := Option.bind_eq_some_iff.mp h1
                  obtain ⟨ad10, cap10, c10, e10, hM, hc⟩ := R_get HY.out j b hyb
                  injection e10 with e10a e10b e10c
                  subst e10a e10c
                  obtain ⟨gb, rfl, hFb, hrb⟩ := hM
                  obtain ⟨ga2, ega, hFa, hra⟩ := HA.out
                  obtain rfl : ga = ga2 := by simpa using ega
                  have cell44 : wr.cell? (ad10.add j) = some (.pointer (some ⟨gb, 0, none⟩)) := by have := hc 0 _ rfl; simpa [kF] using this
                  have HFa := Aside0.mk (show FAtP wr (fun q => some q ≠ u5.ownBlock ∧ w.heap.size ≤ q) a ga from hFa.mono (fun _ hk => ⟨hk.1.2, hk.2⟩))
                  have HFb := Aside0.mk (show FAtP wr (fun q => some q ≠ u5.ownBlock ∧ w.heap.size ≤ q) b gb from hFb.mono (fun _ hk => ⟨hk.1.1.2, hk.2⟩))
                  have HZ := Aside0.mk hz
                  have HJ := Aside0.mk hj
                  have hmy : ys.length ≤ 9223372036854775807 := Kd.C_max (Kd.R_reads' HY.out).2.2
                  clear hc h1 hdr hyb hFb hFa H ega hz
                  cases z with
                  | none =>
                    have HREST4 := Aside0.mk (show rB K a (ys.drop (j + 1)) l0 = some l3 from h2)
                    clear h2
                    go_wp2_with (go_at_call 75; (with_reducible refine (join_own_none K _ _ ga gb a b HFa.out hra HFb.out hrb HZ.out).mono ?_); rintro e w9 ⟨rfl, hb⟩; have HO9 := Aside0.mk (show outR w w9 _ _ _ from Kd.R_below HO.out hb); have HL9 := Aside0.mk (Kd.R_below HL.out hb); have HX9 := Aside0.mk (Kd.R_below HX.out hb); have HY9 := Aside0.mk (Kd.R_below HY.out hb); have HA9 := Aside0.mk (Kd.M_below HA.out hb); have HB9 := Aside0.mk (below_step HB.out hb); clear hb cell44)
                    go_roundg e
                    case measure => omega
                    case rel => exact ⟨j + 1, l0, (by go_num), HREST4, ⟨by have := HK.out; have := HJ.out; omega⟩, HO9, HL9, HX9, HY9, HA9, HB9⟩
                  | some f =>
                    have h3 : (if l0.length < 17592186044416 then rB K a (ys.drop (j + 1)) (l0 ++ [f]) else none) = some l3 := h2
                    by_cases hl : l0.length < 17592186044416
                    · rw [if_pos hl] at h3
                      have HREST4 := Aside0.mk h3
                      have HLL := Aside0.mk hl
                      clear h2 h3 hl
                      go_wp2_with (first
                        | (go_at_call 75; (with_reducible refine (join_own_some K _ (fun q => some q ≠ u5.ownBlock ∧ w.heap.size ≤ q) (fun q hq => ⟨fun he => by have := Kd.R_lt HL.out q he.symm; omega, Nat.le_trans (below_size HB.out) hq⟩) ga gb a b f HFa.out hra HFb.out hrb HZ.out).mono ?_); rintro e w9 ⟨gf, rfl, hff, hrf, hb⟩; have HF9 := Aside0.mk hff; have HO9 := Aside0.mk (show outR w w9 _ _ _ from Kd.R_below HO.out hb); have HL9 := Aside0.mk (Kd.R_below HL.out hb); have HX9 := Aside0.mk (Kd.R_below HX.out hb); have HY9 := Aside0.mk (Kd.R_below HY.out hb); have HA9 := Aside0.mk (Kd.M_below HA.out hb); have HB9 := Aside0.mk (below_step HB.out hb); clear hb cell44 hff)
                        | ((with_reducible refine gate_builtin (b := .append) (xs := #[.tmp 51, .tmp 53]) rfl ?_); at_builtin; refine Kd.R_append kF (w0 := w) w.heap.size rfl (.tmp 51) (.tmp 53) 56 63 (.pointer none) 8 rfl Try.underlying56 info63 rfl (by decide) (by omega) u5 l0 f [.pointer (some ⟨gf, 0, none⟩)] (fun _ => True) (fun q => some q ≠ u5.ownBlock) rfl rfl ?aP (fun _ hk => ⟨trivial, hk⟩) (fun _ _ => trivial) ?aO ?aB ?aS ?aL ?_; (case aP => exact ⟨gf, rfl, HF9.out, hrf⟩); (case aB => exact HB9.out); (case aO => exact HL9.out); (case aS => exact below_size HB9.out); (case aL => have := HLL.out; omega); intro v1 w10 ho hb hg hat; have HL10 := Aside0.mk ho; have HB10 := Aside0.mk hb; have HO10 := Aside0.mk (show outR w w10 _ _ _ from Kd.R_after HO9.out hg hat); have HX10 := Aside0.mk (Kd.R_after HX9.out hg hat); have HY10 := Aside0.mk (Kd.R_after HY9.out hg hat); have HA10 := Aside0.mk (Kd.M_after HA9.out hg hat); clear ho hb hg hat))
                      go_roundg e
                      case measure => omega
                      case rel => exact ⟨j + 1, l0 ++ [f], (by go_num), HREST4, ⟨by have := HK.out; have := HJ.out; omega⟩, HO10, HL10, HX10, HY10, HA10, HB10⟩
                    · rw [if_neg hl] at h3; cases h3
                · have hd4 : decide (j < ys.length) = false := decide_eq_false hj
                  have h1 := H.out
                  rw [List.drop_eq_nil_of_le (by omega)] at h1
                  simp only [rB] at h1
                  obtain rfl := Option.some.inj h1
                  have HI2 := Aside0.mk hi
                  have hmx : xs.length ≤ 9223372036854775807 := Kd.C_max (Kd.R_reads' HX.out).2.2
                  clear h1 hj
                  go_wp2
                  go_roundg e
                  case measure => omega
                  case rel => exact ⟨i + 1, l0, (by go_num), HREST3, ⟨by have := HK3.out; have := HI2.out; omega⟩, HO, HL, HX, HB⟩
            · have hd3 : decide (i < xs.length) = false := decide_eq_false hi
              have h1 := H.out
              rw [List.drop_eq_nil_of_le (by omega)] at h1
              simp only [rA] at h1
              obtain rfl := Option.some.inj h1
              have hk8 : k < 8 := by have := HKN.out; have := hnm.out; omega
              clear h1 hi
              go_wp2
              go_roundg (e + 1)
              case measure => omega
              case rel => exact ⟨k + 1, l1, (by go_num), ⟨HREST.out⟩, ⟨by have := HK2.out; have := HKN.out; omega⟩, HO, HL, HB⟩
        · have hd2 : decide (k < n) = false := decide_eq_false hk
          have h1 := H.out
          rw [show gk - 1 = 0 from by have := HK.out; omega] at h1
          simp only [rK] at h1
          obtain rfl := Option.some.inj h1
          have HLT := Aside0.mk (R_typed HL.out HO.out (by intro q hq; simp [kF] at hq; omega))
          have HO3 := Aside0.mk (show outR w wr (fun _ => True) _ outs from Kd.R_drop HO.out)
          obtain ⟨A5, c5, e5⟩ := Kd.R_slice HL.out
          subst e5
          have hn8 : n ≤ 8 := by have := hnm.out; omega
          clear h1 hk HO H
          go_wp2_with ((with_reducible refine gate_builtin (b := .append) (xs := #[.tmp 58, .tmp 60]) rfl ?_); at_builtin; refine Kd.R_append (Kd.slice 63 kF) (w0 := w) w.heap.size rfl (.tmp 58) (.tmp 60) 57 56 (.slice none 0 0) 24 rfl Try.underlying57 info56 rfl (by decide) (by omega) u3 outs lw [.slice A5 lw.length c5] (fun _ => True) (fun q => True ∧ some q ≠ u3.ownBlock) rfl rfl ?aP (fun _ hk => hk) (fun _ _ => trivial) ?aO ?aB ?aS ?aL ?_; (case aP => exact ⟨_, rfl, HLT.out⟩); (case aB => exact HB.out); (case aO => exact HO3.out); (case aS => exact below_size HB.out); (case aL => have := HK0.out; have := hnm.out; omega); intro v1 w10 ho hb hg hat; have HO4 := Aside0.mk (show outR w w10 (fun _ => True) v1 (outs ++ [lw]) from ho); have HB4 := Aside0.mk hb; clear ho hb hg hat)
          go_roundg (d + 1)
          case measure => omega
          case rel => exact ⟨n + 1, outs ++ [lw], (by go_num), ⟨HN.out⟩, ⟨by have := HK0.out; simp only [List.length_append, List.length_singleton]; omega⟩, HO4, HB4⟩
    · have hd1 : decide (n ≤ most) = false := decide_eq_false hn
      have h1 := H.out
      rw [show gk - 1 = 0 from by have := HK.out; omega] at h1
      simp only [rN] at h1
      obtain rfl := Option.some.inj h1
      clear h1 hn
      go_wp2
      go_ret
      exact ⟨_, rfl, HO.out, HB.out⟩
end Go.Proofs.Ythloakjlpblakaa.PB
