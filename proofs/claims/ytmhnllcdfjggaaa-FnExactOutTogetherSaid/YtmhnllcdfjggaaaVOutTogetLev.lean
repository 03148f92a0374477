import Derived.Test.YtmhnllcdfjggaaaVOutTogetPBx0
import Derived.Test.YtmhnllcdfjggaaaVOutTogetPBx1
import Derived.Test.YtmhnllcdfjggaaaVOutTogetPBx2
import Derived.Test.YtmhnllcdfjggaaaVOutTogetPBx3
import Derived.Test.YtmhnllcdfjggaaaVOutTogetPBx4
import Derived.Test.YtmhnllcdfjggaaaVOutTogetPBx5
import Derived.Test.YtmhnllcdfjggaaaVOutTogetMapE
namespace Go.Proofs.Ytmhnllcdfjggaaa.Lv
open Go.RowKit Go.Proofs.YtmhnllcdfjggaaaW.PrintWords Go.Proofs.YtmhnllcdfjggaaaW.PrintLast Go.Proofs.YtmhnllcdfjggaaaW.PrintMore Go.Proofs.YtmhnllcdfjggaaaX Go.Proofs.Ytmhnllcdfjggaaa.PB Go.Proofs.Ytmhnllcdfjggaaa.Mp
open Go.ChangeMaps (setBlock)
attribute [local go_sem] max2_int min2_int max_two min_two
set_option linter.unusedVariables false
set_option linter.unusedSimpArgs false

/-- A row of maps. -/
def kM : Kd Nat := Kd.scalar (fun b => Value.map (some b)) (fun _ => rfl)
theorem info52 : (Try.prog.info? 52).map (fun i => (i.zero, i.size, i.bytes)) = some (some (.map none), 1, 8) := by kernel_rfl
def nxt (stp : Sp → Int → Int × Int × Int × Int × Int) (most : Int) (p : Sp) (set : Int) : Option Sp :=
  match stp p set with
  | (r1, r2, r3, r4, d) => if d = 0 ∨ most < p.t + d then none else some ⟨r1, r2, r3, r4, p.t + d⟩
def lv (stp : Sp → Int → Int × Int × Int × Int × Int) (most : Int) (L : List Int) (s : Sp) : Nat → List Sp
  | 0 => [s]
  | n + 1 => (lv stp most L s n).flatMap fun p => L.filterMap (nxt stp most p)
structure LvOk (stp : Sp → Int → Int × Int × Int × Int × Int) (k : Nat) (K0 K1 K2 K3 most : Int) (L : List Int) (s : Sp) (G : Sp → Prop) : Prop where
  sets : impl_Kit_sets.f k K0 K1 K2 K3 = some L
  len : L.length ≤ 16
  most0 : 0 ≤ most
  most1 : most ≤ 40
  step : ∀ p, G p → ∀ set ∈ L, ∃ r1 r2 r3 r4 d, stp p set = (r1, r2, r3, r4, d) ∧ impl_Kit_step.f k K0 K1 K2 K3 p.a p.b p.c p.d set = some (r1, r2, r3, r4, d) ∧ 0 ≤ d ∧ d ≤ 1000 ∧ (d ≠ 0 → p.t + d ≤ most → G ⟨r1, r2, r3, r4, p.t + d⟩)
  count : ∀ set ∈ L, ∃ n, bits_OnesCount.f (IntKind.u64.wrap set) = some n
  start : G s
  good : ∀ p, G p → p.ok ∧ 0 ≤ p.t ∧ p.t ≤ 40
theorem at_M {w : World} {A : Option Addr} {n : Nat} {bs : List Nat} (h : kM.C w A n bs) (i b : Nat) (hi : i < n) (hb : bs[i]? = some b) : ∃ ad, A = some ad ∧ w.cell? (ad.add i) = some (.map (some b)) := by
 obtain ⟨ad, e, h1⟩ := ReadsOf.at_ (d := 0) (Kd.reads_of_C h) (i : Int) (Int.natCast_nonneg i) (by omega)
 refine ⟨ad, e, ?_⟩
 have e2 : rdOf 0 bs (i : Int) = b := by simp [rdOf, hb]
 rw [e2] at h1
 simpa using h1
theorem R_ne_map {w : World} {base : Nat} {ok : Nat → Prop} {v : Value} {bs : List Nat} (h : kM.R 52 w base ok v bs) {g : Nat} {ks : List Sp} (hm : MapAt w g ks) : some g ≠ v.ownBlock := by
 intro e
 obtain ⟨inner, ho⟩ := Kd.R_own h
 rcases ho.2 with ⟨h0, _⟩ | ⟨g', cap', cur, hv, hbase, hbk, _⟩
 ·subst h0
  cases e
 ·subst hv
  injection e with e
  subst e
  obtain ⟨es, c, h1, _⟩ := hm
  rw [hbk] at h1
  cases h1
theorem R_ne_iter {w : World} {base : Nat} {ok : Nat → Prop} {v : Value} {bs : List Nat} (h : kM.R 52 w base ok v bs) {g b : Nat} {ks left : List Sp} (hm : IterAt w g b ks left) : some g ≠ v.ownBlock := by
 intro e
 obtain ⟨inner, ho⟩ := Kd.R_own h
 rcases ho.2 with ⟨h0, _⟩ | ⟨g', cap', cur, hv, hbase, hbk, _⟩
 ·subst h0
  cases e
 ·subst hv
  injection e with e
  subst e
  obtain ⟨es, c, seen, _, _, _, h1, _⟩ := hm
  rw [hbk] at h1
  cases h1
theorem iter_sub {w : World} {r b : Nat} {ks left : List Sp} (h : IterAt w r b ks left) {x : Sp} (hx : x ∈ left) : x ∈ ks := by
 obtain ⟨es, c, seen, h1, h2, rfl, h4, rfl⟩ := h
 obtain ⟨y, hy, rfl⟩ := List.mem_map.1 hx
 exact List.mem_map.2 ⟨y, (mem_left hy).1, rfl⟩
theorem at_I {w : World} {A : Option Addr} {n : Nat} {l : List Int} (h : (Kd.int .i64).C w A n l) (i : Nat) (x : Int) (hi : i < n) (hb : l[i]? = some x) : ∃ ad, A = some ad ∧ w.cell? (ad.add i) = some (.int .i64 x) := by
 obtain ⟨ad, e, h1⟩ := Kd.at_int h (i : Int) (Int.natCast_nonneg i) (by omega)
 refine ⟨ad, e, ?_⟩
 have e2 : rd l (i : Int) = x := by simp [rd, hb]
 rw [e2] at h1
 simpa using h1
theorem size_alloc (w : World) (o : Obj) : (w.alloc o).heap.size = w.heap.size + 1 := by
 show (w.heap.push o).size = _
 simp
theorem take_snoc {l : List Int} {j : Nat} {x : Int} (h : l[j]? = some x) : l.take (j + 1) = l.take j ++ [x] := by
 rw [List.take_add_one, h]
 rfl
/-- The maps behind 0, 1, .. sets. -/
def LvAt (w0 w : World) (f : Nat → List Sp) (bs : List Nat) : Prop :=
  ∀ (i b : Nat), bs[i]? = some b → w0.heap.size ≤ b ∧ ∃ ks, MapAt w b ks ∧ ∀ x, x ∈ ks ↔ x ∈ f i
theorem LvAt.step {w0 w w' : World} {f : Nat → List Sp} {bs : List Nat} (h : LvAt w0 w f bs) (hb : Below w.heap.size w w') : LvAt w0 w' f bs := by
 intro i b hi
 obtain ⟨h1, ks, h2, h3⟩ := h i b hi
 exact ⟨h1, ks, h2.of_eq (hb.block b h2.lt), h3⟩

theorem lv_good {stp : Sp → Int → Int × Int × Int × Int × Int} {k : Nat} {K0 K1 K2 K3 most : Int} {L : List Int} {s : Sp} {G : Sp → Prop} (ok : LvOk stp k K0 K1 K2 K3 most L s G) : ∀ i, ∀ p ∈ lv stp most L s i, G p
 | 0, p, h => by
  rw [lv, List.mem_singleton] at h
  subst h
  exact ok.start
 | i + 1, p, h => by
  rw [lv, List.mem_flatMap] at h
  obtain ⟨q, hq, h⟩ := h
  obtain ⟨set, hs, h⟩ := List.mem_filterMap.1 h
  obtain ⟨r1, r2, r3, r4, d, h1, _, h2, h3, h4⟩ := ok.step q (lv_good ok i q hq) set hs
  unfold nxt at h
  rw [h1] at h
  dsimp only at h
  split at h
  ·cases h
  ·rename_i hn
   cases h
   exact h4 (by omega) (by omega)
theorem cnt_calls (set n : Int) (W : World) (h : bits_OnesCount.f (IntKind.u64.wrap set) = some n) : Calls Try.prog 37 #[.int .u64 (IntKind.u64.wrap set)] W fun e w' => e = .returned (.int .i64 n) ∧ Below W.heap.size W w' := by
 refine (bits_OnesCount.calls _ n W h).mono ?_
 rintro e w' ⟨rfl, m, rfl⟩
 exact ⟨rfl, pw_below_drewN (Below.refl _ _) m⟩
set_option maxHeartbeats 4000000 in
set_option maxRecDepth 100000 in
theorem levels_calls (stp : Sp → Int → Int × Int × Int × Int × Int) (k : Nat) (K0 K1 K2 K3 most : Int) (L : List Int) (s : Sp) (st : s.t = 0) (G : Sp → Prop) (ok : LvOk stp k K0 K1 K2 K3 most L s G) (w : World) :
 Calls Try.prog 29 #[.agg #[.int .i64 K0, .int .i64 K1, .int .i64 K2, .int .i64 K3], .agg #[.int .i64 s.a, .int .i64 s.b, .int .i64 s.c, .int .i64 s.d], .int .i64 most] w fun e w' =>
  ∃ v bs, e = .returned v ∧ Kd.R kM 52 w' w.heap.size (fun _ => True) v bs ∧ bs.length = 13 ∧ LvAt w w' (lv stp most L s) bs ∧ Below w.heap.size w w' := by
 have HB := Aside0.mk (Below.refl w.heap.size w)
 have OK := Aside0.mk ok
 clear ok
 go_enter Try.func29, Try.ntmps29
 go_wp2_with (first
  | ((with_reducible refine gate_dst (N := 3) rfl ?_); refine box_event ?hg (N := 3) ?hd (cs := #[.int .i64 K0, .int .i64 K1, .int .i64 K2, .int .i64 K3]) (t := 28) ?hr ?_; (case hd => rfl); (case hg => rfl); (case hr => first | (go_simp; done) | (go_simp; rfl)); intro g3 hg w2 hbox hb; have n0_ := Aside0.mk (below_step HB.out hb); have BK3 := Aside0.mk hbox; have GE3 : Aside0 (w.heap.size ≤ g3) := ⟨by rw [hg]; exact below_size HB.out⟩; clear HB; have HB := n0_; clear n0_ hb hbox hg)
  | ((with_reducible refine gate_dst (N := 4) rfl ?_); refine box_event ?hg (N := 4) ?hd (cs := #[.int .i64 s.a, .int .i64 s.b, .int .i64 s.c, .int .i64 s.d]) (t := 22) ?hr ?_; (case hd => rfl); (case hg => rfl); (case hr => first | (go_simp; done) | (go_simp; rfl)); intro g4 hg w3 hbox hb; have n0_ := Aside0.mk (below_step HB.out hb); have n1_ := Aside0.mk (blk_below BK3.out hb); have BK4 := Aside0.mk hbox; clear HB BK3; have HB := n0_; have BK3 := n1_; clear n0_ n1_ hb hbox hg; have hcz0 := (blk_cell BK4.out 0).trans rfl; have hcz1 := (blk_cell BK4.out 1).trans rfl; have hcz2 := (blk_cell BK4.out 2).trans rfl; have hcz3 := (blk_cell BK4.out 3).trans rfl)
  | ((with_reducible refine gate_dst (N := 20) rfl ?_); refine make_event rfl rfl ?_; intro g20 w4 hg hM hb; have n0_ := Aside0.mk (below_step HB.out hb); have n1_ := Aside0.mk (blk_below BK3.out hb); have n2_ := Aside0.mk (blk_below BK4.out hb); have GE20 : Aside0 (w.heap.size ≤ g20) := ⟨by rw [hg]; exact below_size HB.out⟩; have HM20 := Aside0.mk hM; clear HB BK3 BK4; have HB := n0_; have BK3 := n1_; have BK4 := n2_; clear n0_ n1_ n2_ hb hM hg; replace hcz0 := (blk_cell BK4.out 0).trans rfl; replace hcz1 := (blk_cell BK4.out 1).trans rfl; replace hcz2 := (blk_cell BK4.out 2).trans rfl; replace hcz3 := (blk_cell BK4.out 3).trans rfl)
  | ((with_reducible refine gate_ (.insert 52 (.tmp 20) (.tmp 22) (.tmp 23)) rfl ?_); refine upd_event (s := s) (p := 1) (t := 0) rfl (Or.inr rfl) rfl HM20.out (OK.out.good s OK.out.start).1 rfl (by first | rfl | (rw [Sp.v, st]; rfl)) rfl ?_; intro w5 ks5 hM hk hg; have n0_ := Aside0.mk (below_grown HB.out hg GE20.out); have n1_ := Aside0.mk (blk_grown BK3.out hg (by intro e; injection e with e; exact HM20.out.ne_cells BK3.out e)); have HK5 := Aside0.mk hk; have HM5 := Aside0.mk hM; clear HB BK3 BK4 HM20 hcz0 hcz1 hcz2 hcz3; have HB := n0_; have BK3 := n1_; have HM20 := HM5; clear n0_ n1_ HM5 hM hk hg)
  | ((with_reducible refine gate_dst (N := 25) rfl ?_); refine Kd.R_lit kM (w0 := w) w.heap.size 52 ?hg (N := 25) ?hd (xs := [g20]) (inner := [.map (some g20)]) (ok := fun _ => True) (okp := fun _ => True) ?hr ?hp (fun _ hk => hk) trivial HB.out (below_size HB.out) (by simp) ?_; (case hd => rfl); (case hg => rfl); (case hr => first | (go_simp; done) | (go_simp; rfl)); (case hp => exact (Reps.one rfl (Reps.none _ _))); intro v25 w6 ho hb hg hat; have n0_ := Aside0.mk (blk_grown BK3.out hg (by intro e; cases e)); have HO := Aside0.mk ho; have HM6 := Aside0.mk (HM20.out.of_eq (hg.block g20 HM20.out.lt (by intro e; cases e))); clear HB BK3 HM20; have HB := Aside0.mk hb; have BK3 := n0_; have HM20 := HM6; clear n0_ HM6 ho hb hg hat))
 have HL : Aside0 (LvAt w w6 (lv stp most L s) [g20]) := ⟨by
  intro i b hi
  cases i with
  | succ i => simp at hi
  | zero =>
   simp at hi
   subst hi
   refine ⟨GE20.out, ks5, HM20.out, fun x => ?_⟩
   rw [HK5.out]
   simp [lv]⟩
 clear HM20 GE20 HK5
 go_loopg [7, 26] 13 (fun kq v7 v26 w' => ∃ (i : Nat) (bs : List Nat), v26 = .int .i64 (i : Int) ∧ Aside0 (i + kq = 13 ∧ i ≤ 12) ∧ Aside0 (bs.length = i + 1) ∧ Aside0 (Kd.R kM 52 w' w.heap.size (fun _ => True) v7 bs) ∧ Aside0 (LvAt w w' (lv stp most L s) bs) ∧ Aside0 (w'.heap[g3]? = some (.cells #[.int .i64 K0, .int .i64 K1, .int .i64 K2, .int .i64 K3] 28 (0, 0))) ∧ Aside0 (Below w.heap.size w w'))
 case atStart => exact ⟨0, [g20], rfl, ⟨by omega⟩, ⟨rfl⟩, HO, HL, BK3, HB⟩
 case round =>
  clear HL HO BK3 HB
  obtain ⟨i, bs, rfl, HI, HLEN, HO, HL, BK3, HB⟩ := hrel
  cases gk with
  | zero => exact absurd HI.out (by omega)
  | succ k1 =>
   obtain ⟨A7, c7, rfl⟩ := Kd.R_slice HO.out
   by_cases hi : i < 12
   ·obtain ⟨b, hbi⟩ : ∃ b, bs[i]? = some b := ⟨_, List.getElem?_eq_getElem (by have := HLEN.out; omega)⟩
    obtain ⟨hbase, ks, hM, hks⟩ := HL.out i b hbi
    have GB := Aside0.mk hbase
    have HMi := Aside0.mk hM
    have HKS := Aside0.mk hks
    have hlt : i < bs.length := by have := HLEN.out; omega
    have hi1 : decide (i < 12) = true := decide_eq_true hi
    have HBI := Aside0.mk hbi
    clear hbase hM hks hbi
    go_wp2_with (first
     | ((with_reducible refine gate_dst (N := 29) rfl ?_); refine make_event rfl rfl ?_; intro g29 w4 hg hM hb; have n0_ := Aside0.mk (below_step HB.out hb); have n1_ := Aside0.mk (blk_below BK3.out hb); have GE29 : Aside0 (w.heap.size ≤ g29) := ⟨by rw [hg]; exact below_size HB.out⟩; have HM29 := Aside0.mk hM; have n2_ := Aside0.mk (Kd.R_below HO.out hb); have n3_ := Aside0.mk (HL.out.step hb); have n4_ := Aside0.mk (HMi.out.of_eq (hb.block b HMi.out.lt)); have NE : Aside0 (∀ j b', bs[j]? = some b' → b' ≠ g29) := ⟨fun j b' hj => by obtain ⟨_, ks', h1, _⟩ := HL.out j b' hj; have := h1.lt; omega⟩; clear HB BK3 HO HL HMi; have HB := n0_; have BK3 := n1_; have HO := n2_; have HL := n3_; have HMi := n4_; clear n0_ n1_ n2_ n3_ n4_ hb hM hg; obtain ⟨ad, e1, hx⟩ := at_M (Kd.R_reads' HO.out).2.2 i b hlt HBI.out; cases e1)
     | ((with_reducible refine gate_dst (N := 34) rfl ?_); refine range_event rfl rfl HMi.out rfl ?_; intro g34 w5 hg hI hb; have n0_ := Aside0.mk (below_step HB.out hb); have n1_ := Aside0.mk (blk_below BK3.out hb); have GE34 : Aside0 (w.heap.size ≤ g34) := ⟨by rw [hg]; exact below_size HB.out⟩; have n2_ := Aside0.mk (Kd.R_below HO.out hb); have n3_ := Aside0.mk (HL.out.step hb); have n4_ := Aside0.mk (HM29.out.of_eq (hb.block g29 HM29.out.lt)); have HIT := Aside0.mk hI; clear HB BK3 HO HL HMi HM29 hx; have HB := n0_; have BK3 := n1_; have HO := n2_; have HL := n3_; have HM29 := n4_; clear n0_ n1_ n2_ n3_ n4_ hb hI hg))
    have HNX : Aside0 (∀ x, x ∈ ([] : List Sp) ↔ ∃ p ∈ ks, p ∉ ks ∧ x ∈ L.filterMap (nxt stp most p)) := ⟨fun x => ⟨fun h => (by cases h), fun ⟨p, h1, h2, _⟩ => absurd h1 h2⟩⟩
    go_frame
    go_loopg [10] (ks.length + 1) (fun kq v10 w' => ∃ (left nks : List Sp), Aside0 (left.length < kq) ∧ Aside0 (IterAt w' g34 b ks left) ∧ Aside0 (MapAt w' g29 nks) ∧ Aside0 (∀ x, x ∈ nks ↔ ∃ p ∈ ks, p ∉ left ∧ x ∈ L.filterMap (nxt stp most p)) ∧ Aside0 (Kept w5 w' (fun g => g = g29 ∨ g = g34)) ∧ Aside0 (Below w.heap.size w w'))
    case atStart => exact ⟨ks, [], ⟨Nat.lt_succ_self _⟩, HIT, HM29, HNX, ⟨Kept.refl _ _⟩, HB⟩
    case round =>
     have BK3' := BK3
     clear HB
     obtain ⟨left, nks, HLT, HITr, HMr, HNXr, HKr, HB⟩ := hrel
     clear HNX
     cases gk with
     | zero => exact absurd HLT.out (by omega)
     | succ k2 =>
      have NEk := HM29.out.ne_cells BK3.out
      have NEi := HIT.out.ne_cells BK3.out
      have BKr := Aside0.mk (blk_kept BK3.out HKr.out (by rintro (h | h); exact NEk h; exact NEi h))
      rcases HITr.out.next' with ⟨hl, hrun⟩ | ⟨q, p, t, left', w6, hrun, HS, hgr, hin, hlt2, hmem⟩
      ·have NE34 : ∀ j b', bs[j]? = some b' → b' ≠ g34 := fun j b' hj => by
        obtain ⟨_, ks', h1, _⟩ := HL.out j b' hj
        exact (HIT.out.ne h1).symm
       have Hrun := Aside0.mk hrun
       have HOr := Aside0.mk (Kd.R_mono (Kd.R_kept (Kd.R_tight rfl HO.out) HKr.out (fun k_ hk h => by
        rcases h with rfl | rfl
        ·exact R_ne_map HO.out HM29.out hk
        ·exact R_ne_iter HO.out HIT.out hk)) (fun _ _ => trivial))
       have HLr : Aside0 (LvAt w wr (lv stp most L s) bs) := ⟨fun j b' hj => by
        obtain ⟨h0, ks', h1, h2⟩ := HL.out j b' hj
        exact ⟨h0, ks', h1.of_eq (HKr.out.2 b' h1.lt (by rintro (h | h); exact NE.out j b' hj h; exact NE34 j b' hj h)), h2⟩⟩
       have HGr : Aside0 (MapAt wr g29 nks ∧ ∀ x, x ∈ nks ↔ x ∈ lv stp most L s (i + 1)) := ⟨HMr.out, fun x => by
        rw [HNXr.out x, lv, List.mem_flatMap]
        subst hl
        constructor
        ·rintro ⟨p, h1, _, h2⟩
         exact ⟨p, (HKS.out p).mp h1, h2⟩
        ·rintro ⟨p, h1, h2⟩
         exact ⟨p, (HKS.out p).mpr h1, by simp, h2⟩⟩
       have hwi : wrap64 ((i : Int) + 1) = ((i + 1 : Nat) : Int) := by unfold wrap64; omega
       clear hrun hl HNXr HKr HITr HMr BK3' NEk NEi
       go_wp2_with (first
        | ((with_reducible refine gate_dst (N := 35) rfl ?_); refine next_event rfl rfl rfl Hrun.out ?_)
        | ((with_reducible refine gate_builtin (b := .append) (xs := #[.tmp 98, .tmp 100]) rfl ?_); at_builtin; refine Kd.R_append kM (w0 := w) w.heap.size rfl (.tmp 98) (.tmp 100) 50 52 (.map none) 8 rfl Try.underlying50 info52 rfl (by decide) (by omega) (.slice (some ad) bs.length c7) bs g29 [.map (some g29)] (fun _ => True) (fun _ => False) rfl rfl ?aP (fun _ hk => hk.elim) ?aF ?aO ?aB ?aS ?aL ?_; (case aP => exact rfl); (case aB => exact HB.out); (case aF => exact (fun _ _ => trivial)); (case aO => exact HOr.out); (case aS => exact below_size HB.out); (case aL => have := HLEN.out; have := HI.out; omega); intro v101 w13 ho hb hg hat; have HO13 := Aside0.mk ho; have HB13 := Aside0.mk hb; have HG13 := Aside0.mk hg; clear ho hb hg hat))
       go_roundg k1
       case measure => have := HI.out; omega
       case rel => exact ⟨i + 1, bs ++ [g29], (by first | exact congrArg (Value.int .i64) hwi | rfl | (simp; done)), ⟨by have := HI.out; omega⟩, ⟨by rw [List.length_append, HLEN.out]; rfl⟩, HO13, ⟨fun j b' hj => by
        by_cases hjl : j < bs.length
        ·rw [List.getElem?_append_left hjl] at hj
         obtain ⟨h0, ks', h1, h2⟩ := HLr.out j b' hj
         exact ⟨h0, ks', h1.of_eq (HG13.out.block b' h1.lt (R_ne_map HOr.out h1)), h2⟩
        ·rw [List.getElem?_append_right (by omega)] at hj
         have hj0 : j - bs.length = 0 := by
          have := (List.getElem?_eq_some_iff.1 hj).1
          simp at this
          omega
         rw [hj0] at hj
         simp at hj
         subst hj
         have hji : j = i + 1 := by have := HLEN.out; omega
         subst hji
         exact ⟨GE29.out, nks, HGr.out.1.of_eq (HG13.out.block g29 HGr.out.1.lt (R_ne_map HOr.out HGr.out.1)), HGr.out.2⟩⟩, ⟨blk_grown BKr.out HG13.out (Kd.R_ne HOr.out BKr.out (by decide))⟩, HB13⟩
      ·have HS' := Aside0.mk HS
       have Hgr := Aside0.mk hgr
       have Hrun := Aside0.mk hrun
       clear HS hgr hrun
       have hbr := HITr.out.map.lt
       have NIr := HITr.out.ne HMr.out
       have M6 := Aside0.mk (HMr.out.of_eq (Hgr.out.block g29 HMr.out.lt (by intro e; injection e with e; exact NIr e.symm)))
       have B6 := Aside0.mk (blk_grown BKr.out Hgr.out (by intro e; injection e with e; exact HITr.out.ne_cells BKr.out e))
       have K6 := Aside0.mk (Kept.of_grown Hgr.out HKr.out (by intro k_ e; injection e with e; exact Or.inl (Or.inr e.symm)))
       have HB6 := Aside0.mk (below_grown HB.out Hgr.out GE34.out)
       have I6 := Aside0.mk HS'.out.iter
       have hq := iter_sub HITr.out hin
       obtain ⟨e7, he7⟩ : ∃ e7, e7 = (w6.alloc (.cells #[.int .i64 q.a, .int .i64 q.b, .int .i64 q.c, .int .i64 q.d, .int .i64 q.t] 54)).alloc (.cells #[.int .i64 p, .int .i64 t] 59) := ⟨_, rfl⟩
       have F0 := (blk_cell (blk_alloc (blk_alloc B6.out (.cells #[.int .i64 q.a, .int .i64 q.b, .int .i64 q.c, .int .i64 q.d, .int .i64 q.t] 54)) (.cells #[.int .i64 p, .int .i64 t] 59)) 0).trans rfl
       have F1 := (blk_cell (blk_alloc (blk_alloc B6.out (.cells #[.int .i64 q.a, .int .i64 q.b, .int .i64 q.c, .int .i64 q.d, .int .i64 q.t] 54)) (.cells #[.int .i64 p, .int .i64 t] 59)) 1).trans rfl
       have F2 := (blk_cell (blk_alloc (blk_alloc B6.out (.cells #[.int .i64 q.a, .int .i64 q.b, .int .i64 q.c, .int .i64 q.d, .int .i64 q.t] 54)) (.cells #[.int .i64 p, .int .i64 t] 59)) 2).trans rfl
       have F3 := (blk_cell (blk_alloc (blk_alloc B6.out (.cells #[.int .i64 q.a, .int .i64 q.b, .int .i64 q.c, .int .i64 q.d, .int .i64 q.t] 54)) (.cells #[.int .i64 p, .int .i64 t] 59)) 3).trans rfl
       have E7 : Aside0 (Below w6.heap.size w6 ((w6.alloc (.cells #[.int .i64 q.a, .int .i64 q.b, .int .i64 q.c, .int .i64 q.d, .int .i64 q.t] 54)).alloc (.cells #[.int .i64 p, .int .i64 t] 59)) ∧ ((w6.alloc (.cells #[.int .i64 q.a, .int .i64 q.b, .int .i64 q.c, .int .i64 q.d, .int .i64 q.t] 54)).alloc (.cells #[.int .i64 p, .int .i64 t] 59)).heap[w6.heap.size]? = some (.cells #[.int .i64 q.a, .int .i64 q.b, .int .i64 q.c, .int .i64 q.d, .int .i64 q.t] 54) ∧ ((w6.alloc (.cells #[.int .i64 q.a, .int .i64 q.b, .int .i64 q.c, .int .i64 q.d, .int .i64 q.t] 54)).alloc (.cells #[.int .i64 p, .int .i64 t] 59)).heap[w6.heap.size + 1]? = some (.cells #[.int .i64 p, .int .i64 t] 59)) := ⟨below_alloc (below_alloc (Below.refl _ _) _) _, blk_alloc (blk_new _ _) _, by
        have := blk_new (w6.alloc (.cells #[.int .i64 q.a, .int .i64 q.b, .int .i64 q.c, .int .i64 q.d, .int .i64 q.t] 54)) (.cells #[.int .i64 p, .int .i64 t] 59)
        rw [size_alloc] at this
        exact this⟩
       go_wp2_with (first
        | ((with_reducible refine gate_dst (N := 35) rfl ?_); refine next_event rfl rfl rfl Hrun.out ?_)
        | ((with_reducible refine gate_dst (N := 37) rfl ?_); refine entry_event rfl rfl HS'.out rfl ?_; unfold Sp.v)
        | (go_at_call 35; (with_reducible refine (impl_Kit_sets.calls k K0 K1 K2 K3 L _ OK.out.sets).mono ?_); rintro e w8 ⟨v41, rfl, hR, hb⟩; obtain ⟨A41, c41, rfl⟩ := Kd.R_slice hR; have B78 := Aside0.mk (below_step E7.out.1 hb); have BK10 := Aside0.mk (blk_below E7.out.2.1 hb); have BK11 := Aside0.mk (blk_below E7.out.2.2 hb); have HR41 := Aside0.mk hR; clear hb hR F0 F1 F2 F3))
       have B8 := Aside0.mk (blk_below B6.out B78.out)
       have M8 := Aside0.mk (M6.out.of_eq (B78.out.block g29 M6.out.lt))
       have I8 := Aside0.mk (I6.out.of_eq (B78.out.block b I6.out.map.lt) (B78.out.block g34 I6.out.lt))
       have K8 := Aside0.mk (K6.out.below B78.out)
       have HB8 := Aside0.mk (below_step HB6.out B78.out)
       have R8 := Aside0.mk (Kd.R_mono (Kd.R_bound HR41.out) (ok' := fun k_ => k_ ≠ g29) (fun k_ hk => by have := M6.out.lt; have := E7.out.1.size; have := hk.2.1; omega))
       have N10 : Aside0 (w6.heap.size ≠ g29 ∧ w6.heap.size + 1 ≠ g29) := ⟨by have := M6.out.lt; omega⟩
       clear E7 B78 HR41 B6 M6 I6 K6 HB6 he7 HS' Hgr Hrun hbr NIr BKr HITr HKr HB BK3'
       clear e7
       generalize w6.heap.size + 1 = g11 at BK11 N10 ⊢
       generalize w6.heap.size = g10 at BK10 N10 ⊢
       have NX0 : Aside0 (∀ x, x ∈ nks ↔ x ∈ nks ∨ x ∈ (L.take 0).filterMap (nxt stp most q)) := ⟨fun x => ⟨Or.inl, fun h => h.elim id (fun h => by cases h)⟩⟩
       have Gq := lv_good OK.out i q ((HKS.out q).mp hq)
       have Gr := OK.out.good q Gq
       go_loopg [43] (L.length + 1) (fun kq v43 w' => ∃ (j : Nat) (nks' : List Sp), v43 = .int .i64 (j : Int) ∧ Aside0 (j + kq = L.length + 1 ∧ j ≤ L.length) ∧ Aside0 (MapAt w' g29 nks') ∧ Aside0 (∀ x, x ∈ nks' ↔ x ∈ nks ∨ x ∈ (L.take j).filterMap (nxt stp most q)) ∧ Aside0 (Kept w8 w' (fun g => g = g29)) ∧ Aside0 (Below w.heap.size w w'))
       case atStart => exact ⟨0, nks, rfl, ⟨by omega⟩, M8, NX0, ⟨Kept.refl _ _⟩, HB8⟩
       case round =>
        clear NX0 HB8
        obtain ⟨j, nks', rfl, HJ, MR, NXR, KR, HB⟩ := hrel
        cases gk with
        | zero => exact absurd HJ.out (by omega)
        | succ k3 =>
         have R9 := Kd.R_kept R8.out KR.out (fun _ h => h)
         by_cases hj : j < L.length
         ·obtain ⟨set, hset⟩ : ∃ x, L[j]? = some x := ⟨_, List.getElem?_eq_getElem hj⟩
          obtain ⟨ad2, e2, hx2⟩ := at_I (Kd.R_reads' R9).2.2 j set hj hset
          cases e2
          obtain ⟨r1, r2, r3, r4, d, hsp, hst, hd0, hd1, hdg⟩ := OK.out.step q Gq set (List.mem_of_getElem? hset)
          have HST := Aside0.mk hst
          have HSP := Aside0.mk hsp
          clear hsp
          have BQ3 := Aside0.mk (blk_kept B8.out KR.out NEk)
          have BQ10 := Aside0.mk (blk_kept BK10.out KR.out N10.out.1)
          have BQ11 := Aside0.mk (blk_kept BK11.out KR.out N10.out.2)
          have F0 := (blk_cell BQ3.out 0).trans rfl
          have F1 := (blk_cell BQ3.out 1).trans rfl
          have F2 := (blk_cell BQ3.out 2).trans rfl
          have F3 := (blk_cell BQ3.out 3).trans rfl
          have G0 := (blk_cell BQ10.out 0).trans rfl
          have G1 := (blk_cell BQ10.out 1).trans rfl
          have G2 := (blk_cell BQ10.out 2).trans rfl
          have G3 := (blk_cell BQ10.out 3).trans rfl
          have hwj : wrap64 ((j : Int) + 1) = ((j + 1 : Nat) : Int) := by have := OK.out.len; unfold wrap64; omega
          have hj1 : decide (j < L.length) = true := decide_eq_true hj
          have hw1 : wrap64 (q.t + d) = q.t + d := by have := Gr.2; unfold wrap64; omega
          have hw2 : IntKind.i64.wrap (q.t + d) = q.t + d := (i64_w _).trans hw1
          clear hst
          by_cases hd : d = 0
          ·have hd' : (d == 0) = true := by simp [hd]
           have hnx : nxt stp most q set = none := by
            unfold nxt
            rw [HSP.out]
            dsimp only
            rw [if_pos (by omega)]
           go_wp2_with (first
            | (go_at_call 36; (with_reducible refine (impl_Kit_step.calls k K0 K1 K2 K3 q.a q.b q.c q.d set r1 r2 r3 r4 d _ HST.out).mono ?_); rintro e w9 ⟨rfl, hb⟩; have B9 := Aside0.mk (below_alloc hb (.cells #[.int .i64 r1, .int .i64 r2, .int .i64 r3, .int .i64 r4] 22)); have BZ10 := Aside0.mk (blk_alloc (blk_below BQ10.out hb) (.cells #[.int .i64 r1, .int .i64 r2, .int .i64 r3, .int .i64 r4] 22)); have F4 := (blk_cell BZ10.out 4).trans rfl; clear hb F0 F1 F2 F3 G0 G1 G2 G3))
           go_roundg k3
           case measure => have := HJ.out; omega
           case rel => exact ⟨j + 1, nks', (by first | exact congrArg (Value.int .i64) hwj | rfl | (simp; done)), ⟨by have := HJ.out; omega⟩, ⟨MR.out.of_eq (B9.out.block g29 MR.out.lt)⟩, ⟨fun x => by rw [NXR.out x, take_snoc hset, List.filterMap_append, List.mem_append]; simp [hnx]⟩, ⟨KR.out.below B9.out⟩, ⟨below_step HB.out B9.out⟩⟩
          ·have hd' : (d == 0) = false := by simp [hd]
           by_cases hm : most < q.t + d
           ·have hm' : decide (most < q.t + d) = true := decide_eq_true hm
            have hnx : nxt stp most q set = none := by
             unfold nxt
             rw [HSP.out]
             dsimp only
             rw [if_pos (by omega)]
            go_wp2_with (first
             | (go_at_call 36; (with_reducible refine (impl_Kit_step.calls k K0 K1 K2 K3 q.a q.b q.c q.d set r1 r2 r3 r4 d _ HST.out).mono ?_); rintro e w9 ⟨rfl, hb⟩; have B9 := Aside0.mk (below_alloc hb (.cells #[.int .i64 r1, .int .i64 r2, .int .i64 r3, .int .i64 r4] 22)); have BZ10 := Aside0.mk (blk_alloc (blk_below BQ10.out hb) (.cells #[.int .i64 r1, .int .i64 r2, .int .i64 r3, .int .i64 r4] 22)); have F4 := (blk_cell BZ10.out 4).trans rfl; clear hb F0 F1 F2 F3 G0 G1 G2 G3))
            go_roundg k3
            case measure => have := HJ.out; omega
            case rel => exact ⟨j + 1, nks', (by first | exact congrArg (Value.int .i64) hwj | rfl | (simp; done)), ⟨by have := HJ.out; omega⟩, ⟨MR.out.of_eq (B9.out.block g29 MR.out.lt)⟩, ⟨fun x => by rw [NXR.out x, take_snoc hset, List.filterMap_append, List.mem_append]; simp [hnx]⟩, ⟨KR.out.below B9.out⟩, ⟨below_step HB.out B9.out⟩⟩
           ·have hm' : decide (most < q.t + d) = false := decide_eq_false hm
            go_wp2_with (first
             | (go_at_call 36; (with_reducible refine (impl_Kit_step.calls k K0 K1 K2 K3 q.a q.b q.c q.d set r1 r2 r3 r4 d _ HST.out).mono ?_); rintro e w9 ⟨rfl, hb⟩; have B9 := Aside0.mk hb; have BZ10 := Aside0.mk (blk_alloc (blk_below BQ10.out hb) (.cells #[.int .i64 r1, .int .i64 r2, .int .i64 r3, .int .i64 r4] 22)); have BZ11 := Aside0.mk (blk_alloc (blk_below BQ11.out hb) (.cells #[.int .i64 r1, .int .i64 r2, .int .i64 r3, .int .i64 r4] 22)); have F4 := (blk_cell BZ10.out 4).trans rfl; clear hb F0 F1 F2 F3 G0 G1 G2 G3))
            have X16 : Aside0 (((w9.alloc (.cells #[.int .i64 r1, .int .i64 r2, .int .i64 r3, .int .i64 r4] 22)).alloc (.cells #[.int .i64 r1, .int .i64 r2, .int .i64 r3, .int .i64 r4, .int .i64 (q.t + d)] 54)).heap[w9.heap.size + 1]? = some (.cells #[.int .i64 r1, .int .i64 r2, .int .i64 r3, .int .i64 r4, .int .i64 (q.t + d)] 54)) := ⟨by
             have := blk_new (w9.alloc (.cells #[.int .i64 r1, .int .i64 r2, .int .i64 r3, .int .i64 r4] 22)) (.cells #[.int .i64 r1, .int .i64 r2, .int .i64 r3, .int .i64 r4, .int .i64 (q.t + d)] 54)
             rw [size_alloc] at this
             exact this⟩
            have X11 := Aside0.mk (blk_alloc BZ11.out (.cells #[.int .i64 r1, .int .i64 r2, .int .i64 r3, .int .i64 r4, .int .i64 (q.t + d)] 54))
            have XB := Aside0.mk (below_alloc (below_alloc B9.out (.cells #[.int .i64 r1, .int .i64 r2, .int .i64 r3, .int .i64 r4] 22)) (.cells #[.int .i64 r1, .int .i64 r2, .int .i64 r3, .int .i64 r4, .int .i64 (q.t + d)] 54))
            clear F4 BZ10 BZ11 B9
            generalize (w9.alloc (.cells #[.int .i64 r1, .int .i64 r2, .int .i64 r3, .int .i64 r4] 22)).alloc (.cells #[.int .i64 r1, .int .i64 r2, .int .i64 r3, .int .i64 r4, .int .i64 (q.t + d)] 54) = w11 at X16 X11 XB ⊢
            generalize w9.heap.size + 1 = g16 at X16 ⊢
            generalize w9.heap.size = g14
            have L11 := blk_lt X11.out
            have C11 := Aside0.mk ((blk_cell X11.out 1).trans rfl)
            have C11' := (blk_cell X11.out 1).trans rfl
            obtain ⟨cn, hcn⟩ := OK.out.count set (List.mem_of_getElem? hset)
            have HCN := Aside0.mk (fun W => cnt_calls set cn W hcn)
            clear hcn
            go_region_held3 (fun w' => w'.cell? ⟨g11, 1, none⟩ = some (.int .i64 t) ∧ Below w11.heap.size w11 w')
             (first | (refine (fun hbb => ⟨(Below.cell hbb L11).trans C11.out, hbb⟩ : Below w11.heap.size w11 _ → _) ?_; go_split_ands; (repeat (first | assumption | exact Below.refl _ _ | exact below_step (by repeat (first | assumption | exact Below.refl _ _ | apply below_drew1 | apply pw_below_drewN | apply below_alloc)) hb1 | apply below_drew1 | apply pw_below_drewN | apply below_alloc))) | (trace_state; fail))
             (first | (go_at_call 37; refine (HCN.out _).mono ?_; rintro e w1 ⟨rfl, hb1⟩) | (go_at_call 37; trace_state; fail))
            rename_i hHeld
            have HX12 := Aside0.mk hHeld.2
            clear hb1 hHeld C11 C11' L11
            have XB12 := Aside0.mk (below_step XB.out HX12.out)
            have X16b := Aside0.mk (blk_below X16.out HX12.out)
            have X11b := Aside0.mk (blk_below X11.out HX12.out)
            have HMX := Aside0.mk (MR.out.of_eq (XB12.out.block g29 MR.out.lt))
            have HMXG := Aside0.mk (OK.out.good ⟨r1, r2, r3, r4, q.t + d⟩ (hdg hd (by omega))).1
            have KX := Aside0.mk (KR.out.below XB12.out)
            have HBX := Aside0.mk (below_step HB.out XB12.out)
            clear XB X16 X11 HX12 XB12 R9
            have P0 := (blk_cell X16b.out 0).trans rfl
            have P1 := (blk_cell X16b.out 1).trans rfl
            have P2 := (blk_cell X16b.out 2).trans rfl
            have P3 := (blk_cell X16b.out 3).trans rfl
            have P4 := (blk_cell X16b.out 4).trans rfl
            have hnx : nxt stp most q set = some ⟨r1, r2, r3, r4, q.t + d⟩ := by
             unfold nxt
             rw [HSP.out]
             dsimp only
             rw [if_neg (by omega)]
            have g29b : Aside0 (w.heap.size ≤ g29) := GE29
            obtain ⟨old, hold⟩ : ∃ z, decide ((⟨r1, r2, r3, r4, q.t + d⟩ : Sp) ∈ nks') = z := ⟨_, rfl⟩
            cases old with
            | true =>
             go_wp2_with (first
              | ((with_reducible refine gate_dst (N := 80) rfl ?_); refine look_event (s := ⟨r1, r2, r3, r4, q.t + d⟩) rfl rfl HMX.out HMXG.out rfl rfl ?_; intro p2 t2; rw [hold]; have Q16 := blk_alloc X16b.out (.cells #[.int .i64 p2, .int .i64 t2] 59); have Q11 := blk_alloc X11b.out (.cells #[.int .i64 p2, .int .i64 t2] 59); clear P0 P1 P2 P3 P4; have P0 := (blk_cell Q16 0).trans rfl; have P1 := (blk_cell Q16 1).trans rfl; have P2 := (blk_cell Q16 2).trans rfl; have P3 := (blk_cell Q16 3).trans rfl; have P4 := (blk_cell Q16 4).trans rfl; have P5 := (blk_cell Q11 0).trans rfl; clear Q16 Q11; have HMX2 := Aside0.mk (HMX.out.of_eq ((below_alloc (Below.refl w1.heap.size w1) (.cells #[.int .i64 p2, .int .i64 t2] 59)).block g29 HMX.out.lt)); have KX2 := Aside0.mk (KX.out.alloc (.cells #[.int .i64 p2, .int .i64 t2] 59)); have HBX2 := Aside0.mk (below_alloc HBX.out (.cells #[.int .i64 p2, .int .i64 t2] 59)))
              | ((with_reducible refine gate_ (.mapUpdate 52 (.tmp 88) (.tmp 89) (.tmp 96)) rfl ?_); refine upd_event (s := ⟨r1, r2, r3, r4, q.t + d⟩) rfl (Or.inl rfl) rfl HMX2.out HMXG.out rfl rfl rfl ?_; intro w13 ks13 hM hk hg; have HM13 := Aside0.mk hM; have HK13 := Aside0.mk hk; have K13 := Aside0.mk (Kept.of_grown hg KX2.out (by intro k_ e; injection e with e; exact Or.inl e.symm)); have HB13 := Aside0.mk (below_grown HBX2.out hg GE29.out); clear hM hk hg P0 P1 P2 P3 P4 P5))
             all_goals
              go_roundg k3
              case measure => have := HJ.out; omega
              case rel => exact ⟨j + 1, ks13, (by first | exact congrArg (Value.int .i64) hwj | rfl | (simp; done)), ⟨by have := HJ.out; omega⟩, HM13, ⟨fun x => by rw [HK13.out x, NXR.out x, take_snoc hset, List.filterMap_append, List.mem_append, or_assoc]; simp [hnx]⟩, K13, HB13⟩
            | false =>
             go_wp2_with (first
              | ((with_reducible refine gate_dst (N := 80) rfl ?_); refine look_event (s := ⟨r1, r2, r3, r4, q.t + d⟩) rfl rfl HMX.out HMXG.out rfl rfl ?_; intro p2 t2; rw [hold]; have Q16 := blk_alloc X16b.out (.cells #[.int .i64 p2, .int .i64 t2] 59); have Q11 := blk_alloc X11b.out (.cells #[.int .i64 p2, .int .i64 t2] 59); clear P0 P1 P2 P3 P4; have P0 := (blk_cell Q16 0).trans rfl; have P1 := (blk_cell Q16 1).trans rfl; have P2 := (blk_cell Q16 2).trans rfl; have P3 := (blk_cell Q16 3).trans rfl; have P4 := (blk_cell Q16 4).trans rfl; have P5 := (blk_cell Q11 0).trans rfl; clear Q16 Q11; have HMX2 := Aside0.mk (HMX.out.of_eq ((below_alloc (Below.refl w1.heap.size w1) (.cells #[.int .i64 p2, .int .i64 t2] 59)).block g29 HMX.out.lt)); have KX2 := Aside0.mk (KX.out.alloc (.cells #[.int .i64 p2, .int .i64 t2] 59)); have HBX2 := Aside0.mk (below_alloc HBX.out (.cells #[.int .i64 p2, .int .i64 t2] 59)))
              | ((with_reducible refine gate_ (.mapUpdate 52 (.tmp 88) (.tmp 89) (.tmp 96)) rfl ?_); refine upd_event (s := ⟨r1, r2, r3, r4, q.t + d⟩) rfl (Or.inl rfl) rfl HMX2.out HMXG.out rfl rfl rfl ?_; intro w13 ks13 hM hk hg; have HM13 := Aside0.mk hM; have HK13 := Aside0.mk hk; have K13 := Aside0.mk (Kept.of_grown hg KX2.out (by intro k_ e; injection e with e; exact Or.inl e.symm)); have HB13 := Aside0.mk (below_grown HBX2.out hg GE29.out); clear hM hk hg P0 P1 P2 P3 P4 P5))
             all_goals
              go_roundg k3
              case measure => have := HJ.out; omega
              case rel => exact ⟨j + 1, ks13, (by first | exact congrArg (Value.int .i64) hwj | rfl | (simp; done)), ⟨by have := HJ.out; omega⟩, HM13, ⟨fun x => by rw [HK13.out x, NXR.out x, take_snoc hset, List.filterMap_append, List.mem_append, or_assoc]; simp [hnx]⟩, K13, HB13⟩
         ·have hjf : decide (j < L.length) = false := decide_eq_false hj
          have hjL : j = L.length := by have := HJ.out; omega
          have NEb := NE.out i b HBI.out
          have NEi := I8.out.ne M8.out
          go_wp2
          go_roundg k2
          case measure => have := HLT.out; omega
          case rel => exact ⟨left', nks', ⟨by have := HLT.out; omega⟩, ⟨I8.out.of_eq (KR.out.2 b I8.out.map.lt NEb) (KR.out.2 g34 I8.out.lt NEi)⟩, MR, ⟨fun x => by
           rw [NXR.out x, HNXr.out x, hjL, List.take_length]
           constructor
           ·rintro (⟨p, h1, h2, h3⟩ | h)
            ·exact ⟨p, h1, fun h => h2 ((hmem p).mp h).1, h3⟩
            ·exact ⟨q, hq, fun h => ((hmem q).mp h).2 rfl, h⟩
           ·rintro ⟨p, h1, h2, h3⟩
            by_cases hpq : p = q
            ·subst hpq
             exact Or.inr h3
            ·exact Or.inl ⟨p, h1, fun h => h2 ((hmem p).mpr ⟨h, hpq⟩), h3⟩⟩, ⟨K8.out.then_ KR.out (fun k_ h => Or.inl (Or.inl h))⟩, HB⟩
   ·have hi0 : decide (i < 12) = false := decide_eq_false hi
    go_wp2
    go_ret
    exact ⟨_, bs, rfl, HO.out, by have := HLEN.out; have := HI.out; omega, HL.out, HB.out⟩
end Go.Proofs.Ytmhnllcdfjggaaa.Lv
