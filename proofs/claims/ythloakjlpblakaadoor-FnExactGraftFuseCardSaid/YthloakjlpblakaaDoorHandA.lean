/- Fuses in memory, joined. Conditions: those each lemma names. -/
import Derived.Test.YthloakjlpblakaaDoorPBx
import Derived.Deep.RegionHeld3
set_option linter.unusedVariables false
set_option linter.unusedSimpArgs false
namespace Go.Proofs.YthloakjlpblakaaDoor.PB
open Go.RowKit Go.Proofs.YthloakjlpblakaaDoorW.PrintWords Go.Proofs.YthloakjlpblakaaDoorW.PrintLast Go.Proofs.YthloakjlpblakaaDoorW.PrintMore Go.Proofs.YthloakjlpblakaaDoorX

inductive FT
  | spark
  | node (n d : Int) (a b : FT)
def FT.ropes : FT → Nat
  | .spark => 0
  | .node _ _ a b => a.ropes + b.ropes + 1
def FT.time : FT → Int × Int
  | .spark => (0, 1)
  | .node n d _ _ => (n, d)
def FT.text : FT → ByteArray
  | .spark => ⟨#[46]⟩
  | .node _ _ a b => (((⟨#[40]⟩ : ByteArray) ++ a.text) ++ b.text) ++ ⟨#[41]⟩
/-- The blocks of memory in which a fuse lies. -/
def FAt (w : World) : FT → Nat → Prop
  | .spark, g => w.heap[g]? = some (.cells #[.pointer none, .pointer none, .string ⟨#[46]⟩, .int .i64 0, .int .i64 1, .int .i64 0] 60 (0, 0))
  | .node n d a b, g => ∃ ga gb, w.heap[g]? = some (.cells #[.pointer (some ⟨ga, 0, none⟩), .pointer (some ⟨gb, 0, none⟩), .string (FT.node n d a b).text, .int .i64 n, .int .i64 d, .int .i64 ((FT.node n d a b).ropes : Nat)] 60 (0, 0)) ∧ FAt w a ga ∧ FAt w b gb
theorem FAt.below {w w' : World} (hb : Below w.heap.size w w') : ∀ {t : FT} {g : Nat}, FAt w t g → FAt w' t g
  | .spark, _, h => blk_below h hb
  | .node _ _ _ _, _, ⟨ga, gb, h1, h2, h3⟩ => ⟨ga, gb, blk_below h1 hb, FAt.below hb h2, FAt.below hb h3⟩
theorem FAt.cells {w : World} : ∀ {t : FT} {g : Nat}, FAt w t g → ∃ va vb, w.heap[g]? = some (.cells #[va, vb, .string t.text, .int .i64 t.time.1, .int .i64 t.time.2, .int .i64 (t.ropes : Nat)] 60 (0, 0))
  | .spark, _, h => ⟨_, _, h⟩
  | .node _ _ _ _, _, ⟨_, _, h1, _, _⟩ => ⟨_, _, h1⟩
def fptr : Option Nat → Value
  | none => .pointer none
  | some g => .pointer (some ⟨g, 0, none⟩)
def fpre (s : ByteArray) (c : UInt8) : Bool := decide (0 < s.size) && (bt s 0 == (c.toNat : Int))

def FT.join (k : Nat) : Option FT → Option FT → Option (Option FT)
  | some a, some b => if a.ropes + b.ropes < 8 then (impl_fused.f k a.time.1 a.time.2 b.time.1 b.time.2).bind fun z => some (if z.2.2 = true then some (.node z.1 z.2.1 a b) else none) else some none
  | _, _ => some none
def readF (k : Nat) : Nat → ByteArray → Option (Option FT × ByteArray)
  | 0, _ => none
  | n + 1, s =>
    if fpre s 46 = true then some (some .spark, s.extract 1 s.size)
    else if fpre s 40 = true then
      (readF k n (s.extract 1 s.size)).bind fun x =>
        match x.1 with
        | none => some (none, ⟨#[]⟩)
        | some a => (readF k n x.2).bind fun y => (FT.join k (some a) y.1).bind fun z =>
          match z with
          | some f => if fpre y.2 41 = true then some (some f, y.2.extract 1 y.2.size) else some (none, ⟨#[]⟩)
          | none => some (none, ⟨#[]⟩)
    else some (none, ⟨#[]⟩)
def parseF (k : Nat) (s : ByteArray) : Option (Option FT) :=
  if (s.size : Int) > 33 then some none else (readF k k s).bind fun x => some (if x.2.toList = [] then x.1 else none)
def FRel (w : World) : Option Nat → Option FT → Prop
  | none, none => True
  | some g, some t => FAt w t g ∧ t.ropes ≤ 8
  | _, _ => False
theorem FRel.below {w w' : World} (hb : Below w.heap.size w w') : ∀ {o : Option Nat} {t : Option FT}, FRel w o t → FRel w' o t
  | none, none, _ => trivial
  | some _, some _, ⟨h, hr⟩ => ⟨h.below hb, hr⟩
  | some _, none, h => h.elim
  | none, some _, h => h.elim
theorem FT.text_size : ∀ t : FT, t.text.size = 3 * t.ropes + 1
  | .spark => rfl
  | .node _ _ a b => by
    simp only [FT.text, FT.ropes, ByteArray.size_append, FT.text_size a, FT.text_size b]
    show 1 + _ + _ + 1 = _
    omega
set_option maxHeartbeats 2000000 in
set_option maxRecDepth 100000 in
theorem spark_calls (w : World) : Calls Tryd.prog 22 #[] w fun e w' => e = .returned (.pointer (some ⟨w.heap.size, 0, none⟩)) ∧ w' = w.alloc (.cells #[.pointer none, .pointer none, .string ⟨#[46]⟩, .int .i64 0, .int .i64 1, .int .i64 0] 60 (0, 0)) := by
  go_enter Tryd.func22, Tryd.ntmps22
  go_wp2
  go_ret
  exact ⟨rfl, rfl⟩

set_option maxHeartbeats 2000000 in
set_option maxRecDepth 100000 in
theorem join_many (w : World) (ga gb : Nat) (va wa vb wb : Value) (ta tb : ByteArray) (an ad ra bn bd rb : Int)
    (hA : w.heap[ga]? = some (.cells #[va, wa, .string ta, .int .i64 an, .int .i64 ad, .int .i64 ra] 60 (0, 0)))
    (hB : w.heap[gb]? = some (.cells #[vb, wb, .string tb, .int .i64 bn, .int .i64 bd, .int .i64 rb] 60 (0, 0)))
    (h1 : 0 ≤ ra) (h2 : ra ≤ 8) (h3 : 0 ≤ rb) (h4 : rb ≤ 8) (h5 : 8 ≤ ra + rb) :
    Calls Tryd.prog 24 #[.pointer (some ⟨ga, 0, none⟩), .pointer (some ⟨gb, 0, none⟩)] w fun e w' => e = .returned (.pointer none) ∧ Below w.heap.size w w' := by
  have a5 : w.cell? ⟨ga, 5, none⟩ = some (.int .i64 ra) := (blk_cell hA 5).trans rfl
  have b5 : w.cell? ⟨gb, 5, none⟩ = some (.int .i64 rb) := (blk_cell hB 5).trans rfl
  have hw : IntKind.i64.wrap (ra + rb) = ra + rb := IntWalk.i64_in _ (by omega)
  have hd : decide (8 ≤ ra + rb) = true := decide_eq_true h5
  clear hA hB
  go_enter Tryd.func24, Tryd.ntmps24
  go_wp2
  go_quiet (fail)
  go_wp2
  go_ret
  exact ⟨rfl, pw_below_drewN (Below.refl _ _) _⟩
theorem fz_bcell {W w1 : World} (hb : Below W.heap.size W w1) : (∀ b o, b < W.heap.size → w1.cell? ⟨b, o, none⟩ = W.cell? ⟨b, o, none⟩) ∧ (∀ b o, b < W.heap.size → w1.frozen? ⟨b, o, none⟩ = W.frozen? ⟨b, o, none⟩) :=
  ⟨fun b o h => hb.cell (p := ⟨b, o, none⟩) h, fun b o h => hb.frozen (p := ⟨b, o, none⟩) h⟩
set_option maxHeartbeats 4000000 in
set_option maxRecDepth 100000 in
theorem join_two (k : Nat) (w : World) (ga gb : Nat) (va wa vb wb : Value) (ta tb : ByteArray) (an ad ra bn bd rb : Int)
    (hA : w.heap[ga]? = some (.cells #[va, wa, .string ta, .int .i64 an, .int .i64 ad, .int .i64 ra] 60 (0, 0)))
    (hB : w.heap[gb]? = some (.cells #[vb, wb, .string tb, .int .i64 bn, .int .i64 bd, .int .i64 rb] 60 (0, 0)))
    (h1 : 0 ≤ ra) (h2 : ra ≤ 8) (h3 : 0 ≤ rb) (h4 : rb ≤ 8) (h5 : ra + rb < 8) (r1 r2 : Int) (hf : impl_fused.f k an ad bn bd = some (r1, r2, true)) (hta : ta.size ≤ 1000) (htb : tb.size ≤ 1000) :
    Calls Tryd.prog 24 #[.pointer (some ⟨ga, 0, none⟩), .pointer (some ⟨gb, 0, none⟩)] w fun e w' => ∃ g, e = .returned (.pointer (some ⟨g, 0, none⟩)) ∧ w.heap.size ≤ g ∧
       w'.heap[g]? = some (.cells #[.pointer (some ⟨ga, 0, none⟩), .pointer (some ⟨gb, 0, none⟩), .string ((((⟨#[40]⟩ : ByteArray) ++ ta) ++ tb) ++ ⟨#[41]⟩), .int .i64 r1, .int .i64 r2, .int .i64 (ra + rb + 1)] 60 (0, 0)) ∧ Below w.heap.size w w' := by
  have a5 : w.cell? ⟨ga, 5, none⟩ = some (.int .i64 ra) := (blk_cell hA 5).trans rfl
  have b5 : w.cell? ⟨gb, 5, none⟩ = some (.int .i64 rb) := (blk_cell hB 5).trans rfl
  have hd : decide (8 ≤ ra + rb) = false := decide_eq_false (by omega)
  have HA := Aside0.mk hA
  have HB := Aside0.mk hB
  have HF := Aside0.mk hf
  clear hf
  have la := blk_lt hA
  have lb := blk_lt hB
  clear hA hB
  go_enter Tryd.func24, Tryd.ntmps24
  go_wp2
  have hw : IntKind.i64.wrap (ra + rb) = ra + rb := IntWalk.i64_in _ (by omega)
  go_quiet (fail)
  clear hw hd
  go_wp2
  have H2 : Aside0 (Below w.heap.size w (w.drewN nq)) := ⟨pw_below_drewN (Below.refl _ _) _⟩
  have a3 : Aside0 (w.cell? ⟨ga, 3, none⟩ = some (.int .i64 an)) := ⟨(blk_cell HA.out 3).trans rfl⟩
  have a4 : Aside0 (w.cell? ⟨ga, 4, none⟩ = some (.int .i64 ad)) := ⟨(blk_cell HA.out 4).trans rfl⟩
  have b3 : Aside0 (w.cell? ⟨gb, 3, none⟩ = some (.int .i64 bn)) := ⟨(blk_cell HB.out 3).trans rfl⟩
  have b4 : Aside0 (w.cell? ⟨gb, 4, none⟩ = some (.int .i64 bd)) := ⟨(blk_cell HB.out 4).trans rfl⟩
  clear a5 b5
  generalize w.drewN nq = w2 at H2 ⊢
  have c3 : w2.cell? ⟨ga, 3, none⟩ = some (.int .i64 an) := (H2.out.cell la).trans a3.out
  have c4 : w2.cell? ⟨ga, 4, none⟩ = some (.int .i64 ad) := (H2.out.cell la).trans a4.out
  have d3 : w2.cell? ⟨gb, 3, none⟩ = some (.int .i64 bn) := (H2.out.cell lb).trans b3.out
  have d4 : w2.cell? ⟨gb, 4, none⟩ = some (.int .i64 bd) := (H2.out.cell lb).trans b4.out
  have h2 := H2.out
  go_region_held3 (fun w' => w'.cell? ⟨ga, 3, none⟩ = some (.int .i64 an) ∧ w'.cell? ⟨ga, 4, none⟩ = some (.int .i64 ad) ∧ w'.cell? ⟨gb, 3, none⟩ = some (.int .i64 bn) ∧ w'.cell? ⟨gb, 4, none⟩ = some (.int .i64 bd) ∧ Below w.heap.size w w')
    (first | (refine (fun hbb => ⟨(Below.cell hbb la).trans a3.out, (Below.cell hbb la).trans a4.out, (Below.cell hbb lb).trans b3.out, (Below.cell hbb lb).trans b4.out, hbb⟩ : Below w.heap.size w _ → _) ?_; go_split_ands; (repeat (first | assumption | exact below_step (by repeat (first | assumption | apply below_drew1 | apply below_alloc)) hb | apply below_alloc | apply below_drew1 | apply pw_below_drewN | refine below_set ?_ (by first | exact below_size (by assumption) | exact below_size (below_drew1 (by assumption)))))) | (trace_state; fail))
    (first | (go_at_call 36; refine (impl_fused.calls k an ad bn bd r1 r2 true _ HF.out).mono ?_; rintro e w9 ⟨rfl, hb⟩; obtain ⟨hcc, hff⟩ := fz_bcell hb))
  go_wp2
  · have HBW : Aside0 (Below w.heap.size w (w9.alloc (.cells #[.int .i64 r1, .int .i64 r2] 27 (0, 0)))) := ⟨below_alloc (below_step (by repeat (first | assumption | apply below_drew1 | apply below_alloc)) hb) _⟩
    have hn : (w9.alloc (.cells #[.int .i64 r1, .int .i64 r2] 27 (0, 0))).heap[w9.heap.size]? = some (.cells #[.int .i64 r1, .int .i64 r2] 27 (0, 0)) := blk_new _ _
    generalize w9.alloc (.cells #[.int .i64 r1, .int .i64 r2] 27 (0, 0)) = W at HBW hn ⊢
    generalize w9.heap.size = g5 at hn ⊢
    have g0 : Aside0 (W.cell? ⟨g5, 0, none⟩ = some (.int .i64 r1)) := ⟨(blk_cell hn 0).trans rfl⟩
    have g1 : Aside0 (W.cell? ⟨g5, 1, none⟩ = some (.int .i64 r2)) := ⟨(blk_cell hn 1).trans rfl⟩
    have lG : g5 < W.heap.size := blk_lt hn
    clear hb hcc hff hn c3 c4 d3 d4 h2

    have e2 : Aside0 (W.cell? ⟨ga, 2, none⟩ = some (.string ta)) := ⟨(HBW.out.cell la).trans ((blk_cell HA.out 2).trans rfl)⟩
    have e5 : Aside0 (W.cell? ⟨ga, 5, none⟩ = some (.int .i64 ra)) := ⟨(HBW.out.cell la).trans ((blk_cell HA.out 5).trans rfl)⟩
    have f2 : Aside0 (W.cell? ⟨gb, 2, none⟩ = some (.string tb)) := ⟨(HBW.out.cell lb).trans ((blk_cell HB.out 2).trans rfl)⟩
    have f5 : Aside0 (W.cell? ⟨gb, 5, none⟩ = some (.int .i64 rb)) := ⟨(HBW.out.cell lb).trans ((blk_cell HB.out 5).trans rfl)⟩
    have lA : ga < W.heap.size := World.block_lt_of_cell? _ _ e2.out
    have lB : gb < W.heap.size := World.block_lt_of_cell? _ _ f2.out
    have s1 : (9223372036854775807 < 1 + ta.size) = False := eq_false (by omega)
    have s2 : (9223372036854775807 < 1 + ta.size + tb.size) = False := eq_false (by omega)
    have s3 : (9223372036854775807 < 1 + ta.size + tb.size + 1) = False := eq_false (by omega)
    have w1 : IntKind.i64.wrap (ra + rb) = ra + rb := IntWalk.i64_in _ (by omega)
    have w3 : IntKind.i64.wrap (ra + rb + 1) = ra + rb + 1 := IntWalk.i64_in _ (by omega)
    go_region_held3 (fun w' => w'.cell? ⟨ga, 2, none⟩ = some (.string ta) ∧ w'.cell? ⟨ga, 5, none⟩ = some (.int .i64 ra) ∧ w'.cell? ⟨gb, 2, none⟩ = some (.string tb) ∧ w'.cell? ⟨gb, 5, none⟩ = some (.int .i64 rb) ∧ w'.cell? ⟨g5, 0, none⟩ = some (.int .i64 r1) ∧ w'.cell? ⟨g5, 1, none⟩ = some (.int .i64 r2) ∧ Below W.heap.size W w')
      (first | (refine (fun hbb => ⟨(Below.cell hbb lA).trans e2.out, (Below.cell hbb lA).trans e5.out, (Below.cell hbb lB).trans f2.out, (Below.cell hbb lB).trans f5.out, (Below.cell hbb lG).trans g0.out, (Below.cell hbb lG).trans g1.out, hbb⟩ : Below W.heap.size W _ → _) ?_; go_split_ands; (repeat (first | assumption | exact Below.refl _ _ | apply below_alloc | apply below_drew1 | apply pw_below_drewN))) | (trace_state; fail))
      (first | fail)
    go_wp2
    go_ret
    exact ⟨_, rfl, (by have h_ := below_size HBW.out; simpa using h_), blk_drew (blk_new _ _), below_drew1 (below_alloc HBW.out _)⟩
  · have HBW : Aside0 (Below w.heap.size w ((w9.setCell ⟨w2.heap.size, 0, none⟩ (.int .i64 r1)).setCell ⟨w2.heap.size, 1, none⟩ (.int .i64 r2))) := ⟨below_set (below_set (below_step (by repeat (first | assumption | apply below_drew1 | apply below_alloc)) hb) (below_size H2.out)) (below_size H2.out)⟩
    have hn : ((w9.setCell ⟨w2.heap.size, 0, none⟩ (.int .i64 r1)).setCell ⟨w2.heap.size, 1, none⟩ (.int .i64 r2)).heap[w2.heap.size]? = some (.cells #[.int .i64 r1, .int .i64 r2] 27 (0, 0)) := by
      exact blk_put (blk_put (blk_below (blk_drew (blk_new _ _)) hb) 0 _ rfl) 1 _ rfl
    generalize ((w9.setCell ⟨w2.heap.size, 0, none⟩ (.int .i64 r1)).setCell ⟨w2.heap.size, 1, none⟩ (.int .i64 r2)) = W at HBW hn ⊢
    generalize w2.heap.size = g5 at hn ⊢
    have g0 : Aside0 (W.cell? ⟨g5, 0, none⟩ = some (.int .i64 r1)) := ⟨(blk_cell hn 0).trans rfl⟩
    have g1 : Aside0 (W.cell? ⟨g5, 1, none⟩ = some (.int .i64 r2)) := ⟨(blk_cell hn 1).trans rfl⟩
    have lG : g5 < W.heap.size := blk_lt hn
    clear hb hcc hff hn c3 c4 d3 d4 h2
    have e2 : Aside0 (W.cell? ⟨ga, 2, none⟩ = some (.string ta)) := ⟨(HBW.out.cell la).trans ((blk_cell HA.out 2).trans rfl)⟩
    have e5 : Aside0 (W.cell? ⟨ga, 5, none⟩ = some (.int .i64 ra)) := ⟨(HBW.out.cell la).trans ((blk_cell HA.out 5).trans rfl)⟩
    have f2 : Aside0 (W.cell? ⟨gb, 2, none⟩ = some (.string tb)) := ⟨(HBW.out.cell lb).trans ((blk_cell HB.out 2).trans rfl)⟩
    have f5 : Aside0 (W.cell? ⟨gb, 5, none⟩ = some (.int .i64 rb)) := ⟨(HBW.out.cell lb).trans ((blk_cell HB.out 5).trans rfl)⟩
    have lA : ga < W.heap.size := World.block_lt_of_cell? _ _ e2.out
    have lB : gb < W.heap.size := World.block_lt_of_cell? _ _ f2.out
    have s1 : (9223372036854775807 < 1 + ta.size) = False := eq_false (by omega)
    have s2 : (9223372036854775807 < 1 + ta.size + tb.size) = False := eq_false (by omega)
    have s3 : (9223372036854775807 < 1 + ta.size + tb.size + 1) = False := eq_false (by omega)
    have w1 : IntKind.i64.wrap (ra + rb) = ra + rb := IntWalk.i64_in _ (by omega)
    have w3 : IntKind.i64.wrap (ra + rb + 1) = ra + rb + 1 := IntWalk.i64_in _ (by omega)
    go_region_held3 (fun w' => w'.cell? ⟨ga, 2, none⟩ = some (.string ta) ∧ w'.cell? ⟨ga, 5, none⟩ = some (.int .i64 ra) ∧ w'.cell? ⟨gb, 2, none⟩ = some (.string tb) ∧ w'.cell? ⟨gb, 5, none⟩ = some (.int .i64 rb) ∧ w'.cell? ⟨g5, 0, none⟩ = some (.int .i64 r1) ∧ w'.cell? ⟨g5, 1, none⟩ = some (.int .i64 r2) ∧ Below W.heap.size W w')
      (first | (refine (fun hbb => ⟨(Below.cell hbb lA).trans e2.out, (Below.cell hbb lA).trans e5.out, (Below.cell hbb lB).trans f2.out, (Below.cell hbb lB).trans f5.out, (Below.cell hbb lG).trans g0.out, (Below.cell hbb lG).trans g1.out, hbb⟩ : Below W.heap.size W _ → _) ?_; go_split_ands; (repeat (first | assumption | exact Below.refl _ _ | apply below_alloc | apply below_drew1 | apply pw_below_drewN))) | (trace_state; fail))
      (first | fail)
    go_wp2
    go_ret
    exact ⟨_, rfl, (by have h_ := below_size HBW.out; simpa using h_), blk_drew (blk_new _ _), below_drew1 (below_alloc HBW.out _)⟩
end Go.Proofs.YthloakjlpblakaaDoor.PB
