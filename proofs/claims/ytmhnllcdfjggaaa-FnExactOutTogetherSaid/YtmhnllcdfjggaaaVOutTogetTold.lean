import Derived.Test.YtmhnllcdfjggaaaVOutTogetLev
namespace Go.Proofs.Ytmhnllcdfjggaaa.Lv
open Go.RowKit Go.Proofs.YtmhnllcdfjggaaaW.PrintWords Go.Proofs.YtmhnllcdfjggaaaW.PrintLast Go.Proofs.YtmhnllcdfjggaaaW.PrintMore Go.Proofs.YtmhnllcdfjggaaaX Go.Proofs.Ytmhnllcdfjggaaa.PB Go.Proofs.Ytmhnllcdfjggaaa.Mp
open Go.ChangeMaps (setBlock)
attribute [local go_sem] max2_int min2_int max_two min_two
set_option linter.unusedVariables false
set_option linter.unusedSimpArgs false

/-- As 'goes_', the callee's value in an operand. -/
theorem goesV_ {P : Program} {ops : Array Oper} {Q : Exit → Act → World → Prop} {oi : Oper} {N : Option Tmp} {a : Act} {w : World} {K : Act → World → Prop} {f : FuncId} {fn : Func} {o : Operand} {as_ : Array Operand} {ts : Array TypeId} (hf : P.funcs[f]? = some fn) (hname : (fn.name == "runtime.NumGoroutine") = false) (hb : fn.body.isSome = true) (args : Array Value)
 (hw : Region.wanted oi (yielded ops a.tmps) = true) (hN : oi.dst = N) (hop : oi.op = .call { callee := .value o, args := as_, argTypes := ts }) (hv : a.eval o = .func (.func f) #[] #[]) (hargs : as_.map a.eval = args)
 (h : Calls P f args w fun e w' => ∃ v, e = .returned v ∧ K (a.put N v) w') : if Region.wanted oi (yielded ops a.tmps) = true then Oper.wp P oi a w K Q else K (a.put N undef) w := by
 refine call_ f args hw hN ?_ h
 have he := enters_ hf hname hb args w
 unfold execOp
 simp [hop, resolve, hv, Deferred.ofValue, invoke, hargs, he]
theorem infoB4 : (Try.prog.info? 4).map (fun i => (i.zero, i.size, i.bytes)) = some (some (.bool false), 1, 1) := by kernel_rfl
theorem Rb_ne_map {w : World} {base : Nat} {ok : Nat → Prop} {gi n c : Nat} {bs : List Bool} (h : Kd.bool.R 4 w base ok (.slice (some ⟨gi, 0, none⟩) n c) bs) {g : Nat} {ks : List Sp} (hm : MapAt w g ks) : g ≠ gi := by
 rintro rfl
 obtain ⟨inner, ho⟩ := Kd.R_own h
 rcases ho.2 with ⟨h0, _⟩ | ⟨g', cap', cur, hv, hbase, hbk, _⟩
 ·cases h0
 ·cases hv
  obtain ⟨es, c, h1, _⟩ := hm
  rw [hbk] at h1
  cases h1
theorem Rb_ne_iter {w : World} {base : Nat} {ok : Nat → Prop} {gi n c : Nat} {bs : List Bool} (h : Kd.bool.R 4 w base ok (.slice (some ⟨gi, 0, none⟩) n c) bs) {g b : Nat} {ks left : List Sp} (hm : IterAt w g b ks left) : g ≠ gi := by
 rintro rfl
 obtain ⟨inner, ho⟩ := Kd.R_own h
 rcases ho.2 with ⟨h0, _⟩ | ⟨g', cap', cur, hv, hbase, hbk, _⟩
 ·cases h0
 ·cases hv
  obtain ⟨es, c, seen, _, _, _, h1, _⟩ := hm
  rw [hbk] at h1
  cases h1
/-- The times whose flags are up, from 1 on. -/
def outF (fl : List Bool) (m : Nat) : List Int := ((List.range m).filter fun t : Nat => decide (1 ≤ t) && (fl[t]? == some true)).map fun t : Nat => (t : Int)
theorem outF_one (fl : List Bool) : outF fl 1 = [] := by simp [outF, List.range_succ]
theorem outF_true (fl : List Bool) (m : Nat) (h1 : 1 ≤ m) (h : fl[m]? = some true) : outF fl (m + 1) = outF fl m ++ [(m : Int)] := by
 simp [outF, List.range_succ, h, h1]
theorem outF_false (fl : List Bool) (m : Nat) (h : fl[m]? = some false) : outF fl (m + 1) = outF fl m := by
 simp [outF, List.range_succ, h]
theorem outF_len (fl : List Bool) (m : Nat) : (outF fl m).length ≤ m := by
 unfold outF
 rw [List.length_map]
 exact Nat.le_trans (List.length_filter_le _ _) (by simp)
/-- What the flags say. -/
def Flags (most : Int) (fl : List Bool) (F : Nat → Prop) : Prop := fl.length = most.toNat + 1 ∧ ∀ t : Nat, fl[t]? = some true ↔ t ≤ most.toNat ∧ F t
theorem Flags.zero (most : Int) : Flags most (List.replicate (most.toNat + 1) false) (fun _ => False) := by
 refine ⟨by simp, fun t => ?_⟩
 constructor
 ·intro h
  have := List.mem_of_getElem? h
  simp at this
 ·rintro ⟨_, h⟩
  cases h
theorem Flags.imp {most : Int} {fl : List Bool} {F F' : Nat → Prop} (h : Flags most fl F) (e : ∀ t, F t ↔ F' t) : Flags most fl F' := ⟨h.1, fun t => by rw [h.2 t, e t]⟩
theorem Flags.set {most : Int} {fl : List Bool} {F : Nat → Prop} (h : Flags most fl F) (i : Nat) (hi : i ≤ most.toNat) (z : Bool) (hz : fl[i]? = some true → z = true) : Flags most (fl.set i z) (fun t => F t ∨ (t = i ∧ z = true)) := by
 refine ⟨by simp [h.1], fun t => ?_⟩
 rw [List.getElem?_set]
 by_cases ht : i = t
 ·subst ht
  have hl : i < fl.length := by rw [h.1]; omega
  rw [if_pos rfl, if_pos hl]
  constructor
  ·intro e
   cases e
   exact ⟨hi, Or.inr ⟨rfl, rfl⟩⟩
  ·rintro ⟨_, h1 | ⟨_, h1⟩⟩
   ·rw [hz ((h.2 i).mpr ⟨hi, h1⟩)]
   ·rw [h1]
 ·rw [if_neg ht, h.2 t]
  constructor
  ·rintro ⟨h1, h2⟩
   exact ⟨h1, Or.inl h2⟩
  ·rintro ⟨h1, h2 | ⟨h2, _⟩⟩
   ·exact ⟨h1, h2⟩
   ·exact absurd h2.symm ht
theorem left_step {ks left left' : List Sp} {p : Sp} (hp : p ∈ ks) (hmem : ∀ x, x ∈ left' ↔ x ∈ left ∧ x ≠ p) (P : Sp → Prop) : (∃ q ∈ ks, q ∉ left' ∧ P q) ↔ (∃ q ∈ ks, q ∉ left ∧ P q) ∨ P p := by
 constructor
 ·rintro ⟨q, h1, h2, h3⟩
  by_cases hpq : q = p
  ·subst hpq
   exact Or.inr h3
  ·exact Or.inl ⟨q, h1, fun h => h2 ((hmem q).mpr ⟨h, hpq⟩), h3⟩
 ·rintro (⟨q, h1, h2, h3⟩ | h)
  ·exact ⟨q, h1, fun h => h2 ((hmem q).mp h).1, h3⟩
  ·exact ⟨p, hp, fun h => ((hmem p).mp h).2 rfl, h⟩
/-- What is told: the times of the levels' spots that do. -/
def toldL (stp : Sp → Int → Int × Int × Int × Int × Int) (most : Int) (L : List Int) (s : Sp) (dz : Sp → Bool) : List Int :=
  ((List.range (most.toNat + 1)).filter fun t : Nat => decide (1 ≤ t) && (List.range 13).any fun j => (lv stp most L s j).any fun p => p.t == (t : Int) && dz p).map fun t : Nat => (t : Int)
theorem outF_told {stp : Sp → Int → Int × Int × Int × Int × Int} {most : Int} {L : List Int} {s : Sp} {dz : Sp → Bool} {fl : List Bool} (h : Flags most fl (fun t => ∃ j, j < 13 ∧ ∃ p ∈ lv stp most L s j, p.t = t ∧ dz p = true)) :
 outF fl (most.toNat + 1) = toldL stp most L s dz := by
 unfold outF toldL
 congr 1
 refine List.filter_congr (fun t ht => ?_)
 congr 1
 rw [List.mem_range] at ht
 rw [Bool.eq_iff_iff, beq_iff_eq, h.2 t]
 simp only [List.any_eq_true, List.mem_range, Bool.and_eq_true, beq_iff_eq]
 constructor
 ·rintro ⟨_, h1⟩
  exact h1
 ·intro h1
  exact ⟨by omega, h1⟩

set_option maxHeartbeats 8000000 in
set_option maxRecDepth 100000 in
theorem told_18 (stp : Sp → Int → Int × Int × Int × Int × Int) (k : Nat) (K0 K1 K2 K3 most : Int) (L : List Int) (s : Sp) (st : s.t = 0) (G : Sp → Prop) (ok : LvOk stp k K0 K1 K2 K3 most L s G) (hG : ∀ p, G p → p.t ≤ most) (w : World) :
 Calls Try.prog 17 #[.agg #[.int .i64 K0, .int .i64 K1, .int .i64 K2, .int .i64 K3], .agg #[.int .i64 s.a, .int .i64 s.b, .int .i64 s.c, .int .i64 s.d], .int .i64 most, .func (.func 18) #[] #[]] w fun e w' =>
  ∃ v, e = .returned v ∧ Kd.R (Kd.int .i64) 3 w' w.heap.size (fun _ => True) v (toldL stp most L s (fun p => p.a == 0 && (p.b == 0 && (p.c == 0 && (p.d == 0))))) ∧ Below w.heap.size w w' := by
 have CL : Aside0 (∀ (p : Sp) (W : World), Calls Try.prog 18 #[.agg #[.int .i64 p.a, .int .i64 p.b, .int .i64 p.c, .int .i64 p.d]] W fun e w' => e = .returned (.bool (p.a == 0 && (p.b == 0 && (p.c == 0 && (p.d == 0))))) ∧ Below W.heap.size W w') := ⟨fun p W => impl_OutTogether_1.calls p.a p.b p.c p.d _ W rfl⟩
 have HB := Aside0.mk (Below.refl w.heap.size w)
 have OK := Aside0.mk ok
 have hm0 := ok.most0
 have hm1 := ok.most1
 have hgd : Aside0 (∀ (i : Nat) (p : Sp), p ∈ lv stp most L s i → 0 ≤ p.t ∧ p.t ≤ most) := ⟨fun i p hp => ⟨(ok.good p (lv_good ok i p hp)).2.1, hG p (lv_good ok i p hp)⟩⟩
 clear hG
 have hwm : wrap64 (most + 1) = most + 1 := by unfold wrap64; omega
 have hwm2 : IntKind.i64.wrap (most + 1) = most + 1 := (i64_w _).trans hwm
 have HTN : Aside0 ((most + 1).toNat = most.toNat + 1) := ⟨by omega⟩
 clear ok
 generalize hdz : (fun p : Sp => p.a == 0 && (p.b == 0 && (p.c == 0 && (p.d == 0)))) = dz at *
 go_enter Try.func17, Try.ntmps17
 go_wp2_with (first
  | ((with_reducible refine gate_dst (N := 4) rfl ?_); refine box_event ?hg (N := 4) ?hd (cs := #[.int .i64 K0, .int .i64 K1, .int .i64 K2, .int .i64 K3]) (t := 28) ?hr ?_; (case hd => rfl); (case hg => rfl); (case hr => first | (go_simp; done) | (go_simp; rfl)); intro g4 hg w2 hbox hb; have n0_ := Aside0.mk (below_step HB.out hb); have BK4 := Aside0.mk hbox; clear HB; have HB := n0_; clear n0_ hb hbox hg)
  | ((with_reducible refine gate_dst (N := 5) rfl ?_); refine box_event ?hg (N := 5) ?hd (cs := #[.int .i64 s.a, .int .i64 s.b, .int .i64 s.c, .int .i64 s.d]) (t := 22) ?hr ?_; (case hd => rfl); (case hg => rfl); (case hr => first | (go_simp; done) | (go_simp; rfl)); intro g5 hg w3 hbox hb; have n0_ := Aside0.mk (below_step HB.out hb); have n1_ := Aside0.mk (blk_below BK4.out hb); have BK5 := Aside0.mk hbox; clear HB BK4; have HB := n0_; have BK4 := n1_; clear n0_ n1_ hb hbox hg)
  | ((with_reducible refine gate_dst (N := 17) rfl ?_); refine Kd.R_make Kd.bool w.heap.size 4 rfl (N := 17) rfl 49 _ _ rfl (most + 1) rfl rfl Try.underlying49 (.bool false) 1 infoB4 rfl (by decide) (by omega) false (ok := fun _ => True) (okp := fun _ => True) rfl (fun _ hk => hk) trivial (by omega) (by omega) HB.out (below_size HB.out) ?_; intro v17 w4 ho hb hg hat; have n1_ := Aside0.mk (blk_grown BK4.out hg (by intro e; cases e)); have n2_ := Aside0.mk (blk_grown BK5.out hg (by intro e; cases e)); clear HB BK4 BK5; have HB := Aside0.mk hb; have BK4 := n1_; have BK5 := n2_; obtain ⟨fl0, hfl0, ho⟩ : ∃ fl0, Flags most fl0 (fun _ => False) ∧ Kd.bool.R 4 w4 w.heap.size (fun _ => True) v17 fl0 := ⟨_, Flags.zero most, by rw [← HTN.out]; exact ho⟩; obtain ⟨gi, ci, rfl, hgi, hgl, _⟩ := Kd.R_form ho (by rw [hfl0.1]; omega); have HFL := Aside0.mk hfl0; clear hfl0; have HO := Aside0.mk ho; have GI := Aside0.mk hgi; have GL := Aside0.mk hgl; clear ho hb hg hat hgi hgl n1_ n2_; have F0 := (blk_cell BK4.out 0).trans rfl; have F1 := (blk_cell BK4.out 1).trans rfl; have F2 := (blk_cell BK4.out 2).trans rfl; have F3 := (blk_cell BK4.out 3).trans rfl; have E0 := (blk_cell BK5.out 0).trans rfl; have E1 := (blk_cell BK5.out 1).trans rfl; have E2 := (blk_cell BK5.out 2).trans rfl; have E3 := (blk_cell BK5.out 3).trans rfl)
  | (go_at_call 29; (with_reducible refine (levels_calls stp k K0 K1 K2 K3 most L s st G OK.out _).mono ?_); rintro e w5 ⟨v21, bs, rfl, hR, hl, hL, hb⟩; obtain ⟨A21, c21, rfl⟩ := Kd.R_slice hR; have HR := Aside0.mk hR; have HLEN := Aside0.mk hl; have HL := Aside0.mk hL; have n0_ := Aside0.mk (below_step HB.out hb); have n1_ := Aside0.mk (Kd.R_below HO.out hb); have W45 := Aside0.mk hb; clear HB HO BK4 BK5 hR hl hL hb F0 F1 F2 F3 E0 E1 E2 E3; have HB := n0_; have HO := n1_; clear n0_ n1_))
 have RM : Aside0 (Kd.R kM 52 w5 w4.heap.size (fun k_ => k_ ≠ gi) (.slice A21 bs.length c21) bs) := ⟨Kd.R_mono (Kd.R_bound HR.out) (fun k_ hk => by have := GL.out; have := hk.2.1; omega)⟩
 clear HR
 have HFL' := Aside0.mk (HFL.out.imp (F' := fun t => ∃ j, j < 0 ∧ ∃ p ∈ lv stp most L s j, p.t = t ∧ dz p = true) (fun t => ⟨fun h => h.elim, fun ⟨j, h, _⟩ => by omega⟩))
 go_loopg [23] 14 (fun kq v23 w' => ∃ (n : Nat) (fl : List Bool), v23 = .int .i64 (n : Int) ∧ Aside0 (n + kq = 14 ∧ n ≤ 13) ∧ Aside0 (Flags most fl (fun t => ∃ j, j < n ∧ ∃ p ∈ lv stp most L s j, p.t = t ∧ dz p = true)) ∧ Aside0 (Kd.bool.R 4 w' w.heap.size (fun _ => True) (.slice (some ⟨gi, 0, none⟩) fl0.length ci) fl) ∧ Aside0 (Kept w5 w' (fun g => g = gi)) ∧ Aside0 (Below w.heap.size w w'))
 case atStart => exact ⟨0, fl0, rfl, ⟨by omega⟩, HFL', HO, ⟨Kept.refl _ _⟩, HB⟩
 case round =>
  clear HFL' HB
  have HO5 := HO
  clear HO
  obtain ⟨n, fl, rfl, HN, HF, HO, KR, HB⟩ := hrel
  cases gk with
  | zero => exact absurd HN.out (by omega)
  | succ k1 =>
   by_cases hn : n < 13
   ·obtain ⟨b, hbi⟩ : ∃ b, bs[n]? = some b := ⟨_, List.getElem?_eq_getElem (by have := HLEN.out; omega)⟩
    obtain ⟨_, ks, hM, hks⟩ := HL.out n b hbi
    have NEb := Rb_ne_map HO5.out hM
    have HMi := Aside0.mk (hM.of_eq (KR.out.2 b hM.lt NEb))
    have HKS := Aside0.mk hks
    have hlt : n < bs.length := by have := HLEN.out; omega
    have hn1 : decide (n < bs.length) = true := decide_eq_true hlt
    have hn2 : decide ((n : Int) < (bs.length : Int)) = true := decide_eq_true (by omega)
    have RMr := Aside0.mk (Kd.R_kept RM.out KR.out (fun _ h => h))
    obtain ⟨ad, e1, hx⟩ := at_M (Kd.R_reads' RMr.out).2.2 n b hlt hbi
    cases e1
    clear hM hks
    go_wp2_with (first
     | ((with_reducible refine gate_dst (N := 28) rfl ?_); refine range_event rfl rfl HMi.out rfl ?_; intro r w6 hg hI hb; have n0_ := Aside0.mk (below_step HB.out hb); have GR : Aside0 (w.heap.size ≤ r) := ⟨by rw [hg]; exact below_size HB.out⟩; have NR : Aside0 (w5.heap.size ≤ r) := ⟨by rw [hg]; exact KR.out.1⟩; have n1_ := Aside0.mk (Kd.R_below HO.out hb); have K6 := Aside0.mk (KR.out.below hb); have HIT := Aside0.mk hI; clear HB HO hx HMi RMr; have HB := n0_; have HO := n1_; clear n0_ n1_ hb hI hg))
    have HF2 := Aside0.mk (HF.out.imp (F' := fun t => (∃ j, j < n ∧ ∃ p ∈ lv stp most L s j, p.t = t ∧ dz p = true) ∨ ∃ p ∈ ks, p ∉ ks ∧ p.t = (t : Int) ∧ dz p = true) (fun t => ⟨Or.inl, fun h => h.elim id (fun ⟨p, h1, h2, _⟩ => absurd h1 h2)⟩))
    have NEr := Rb_ne_iter HO.out HIT.out
    go_frame
    go_loopg [12] (ks.length + 1) (fun kq v12 w' => ∃ (left : List Sp) (fl' : List Bool), Aside0 (left.length < kq) ∧ Aside0 (IterAt w' r b ks left) ∧ Aside0 (Flags most fl' (fun t => (∃ j, j < n ∧ ∃ p ∈ lv stp most L s j, p.t = t ∧ dz p = true) ∨ ∃ p ∈ ks, p ∉ left ∧ p.t = (t : Int) ∧ dz p = true)) ∧ Aside0 (Kd.bool.R 4 w' w.heap.size (fun _ => True) (.slice (some ⟨gi, 0, none⟩) fl0.length ci) fl') ∧ Aside0 (Kept w6 w' (fun g => g = gi ∨ g = r)) ∧ Aside0 (Below w.heap.size w w'))
    case atStart => exact ⟨ks, fl, ⟨Nat.lt_succ_self _⟩, HIT, HF2, HO, ⟨Kept.refl _ _⟩, HB⟩
    case round =>
     clear HF2 HB HF
     have HO6 := HO
     clear HO
     obtain ⟨left, fl', HLT, HITr, HFr, HOr, K7, HB⟩ := hrel
     cases gk with
     | zero => exact absurd HLT.out (by omega)
     | succ k2 =>
      rcases HITr.out.next' with ⟨hl, hrun⟩ | ⟨p, pp, pt, left', w8, hrun, HS, hgr, hin, hlt2, hmem⟩
      ·have Hrun := Aside0.mk hrun
       have hwn : wrap64 ((n : Int) + 1) = ((n + 1 : Nat) : Int) := by unfold wrap64; omega
       clear hrun
       go_wp2_with (first
        | ((with_reducible refine gate_dst (N := 29) rfl ?_); refine next_event rfl rfl rfl Hrun.out ?_))
       go_roundg k1
       case measure => have := HN.out; omega
       case rel => exact ⟨n + 1, fl', (by first | exact congrArg (Value.int .i64) hwn | rfl | (simp; done)), ⟨by have := HN.out; omega⟩, ⟨HFr.out.imp (fun t => by
        subst hl
        constructor
        ·rintro (⟨j, h1, h2⟩ | ⟨p, h1, _, h2⟩)
         ·exact ⟨j, by omega, h2⟩
         ·exact ⟨n, by omega, p, (HKS.out p).mp h1, h2⟩
        ·rintro ⟨j, h1, p, h2, h3⟩
         by_cases hj : j = n
         ·subst hj
          exact Or.inr ⟨p, (HKS.out p).mpr h2, by simp, h3⟩
         ·exact Or.inl ⟨j, by omega, p, h2, h3⟩)⟩, HOr, ⟨(K6.out.then_ K7.out (fun k_ h => h.elim Or.inl (fun h => Or.inr (by rw [h]; exact NR.out))))⟩, HB⟩
      ·have HS' := Aside0.mk HS
       have Hrun := Aside0.mk hrun
       have hq := iter_sub HITr.out hin
       obtain ⟨ht0, ht1⟩ := hgd.out n p ((HKS.out p).mp hq)
       have HB8 := Aside0.mk (below_grown HB.out hgr GR.out)
       have K8 := Aside0.mk (Kept.of_grown hgr K7.out (by intro k_ e; injection e with e; exact Or.inl (Or.inr e.symm)))
       have HO8 := Aside0.mk (Kd.R_grown (Kd.R_tight rfl HOr.out) hgr (by intro k_ e h; injection h with h; injection e with e; exact NEr (by rw [← h, e])))
       have I8 := Aside0.mk HS.iter
       obtain ⟨x, hx⟩ : ∃ x, fl'[p.t.toNat]? = some x := ⟨_, List.getElem?_eq_getElem (by rw [HFr.out.1]; omega)⟩
       clear HS hrun hgr
       go_wp2_with (first
        | ((with_reducible refine gate_dst (N := 29) rfl ?_); refine next_event rfl rfl rfl Hrun.out ?_)
        | ((with_reducible refine gate_dst (N := 31) rfl ?_); refine entry_event rfl rfl HS'.out rfl ?_; unfold Sp.v))
       have ht2 : p.t < (fl0.length : Int) := by rw [HFL.out.1]; omega
       have XC := blk_new w8 (.cells #[.int .i64 p.a, .int .i64 p.b, .int .i64 p.c, .int .i64 p.d, .int .i64 p.t] 54)
       have O9 := Kd.R_below HO8.out (below_alloc (Below.refl _ _) (.cells #[.int .i64 p.a, .int .i64 p.b, .int .i64 p.c, .int .i64 p.d, .int .i64 p.t] 54))
       have B9 := below_alloc (Below.refl w8.heap.size w8) (.cells #[.int .i64 p.a, .int .i64 p.b, .int .i64 p.c, .int .i64 p.d, .int .i64 p.t] 54)
       generalize w8.alloc (.cells #[.int .i64 p.a, .int .i64 p.b, .int .i64 p.c, .int .i64 p.d, .int .i64 p.t] 54) = w9 at XC O9 B9 ⊢
       have B10 : Aside0 (Below w8.heap.size w8 w9.drew) := ⟨below_drew B9⟩
       generalize w8.heap.size = g12 at XC ⊢
       have O10 : Aside0 (Kd.bool.R 4 w9.drew w.heap.size (fun k_ => some k_ = (Value.slice (some { block := gi, off := 0 }) fl0.length ci).ownBlock) (.slice (some ⟨gi, 0, none⟩) fl0.length ci) fl') := ⟨O9⟩
       have C0 : Aside0 (w9.drew.cell? ⟨g12, 0, none⟩ = some (.int .i64 p.a)) := ⟨(blk_cell XC 0).trans rfl⟩
       have C1 : Aside0 (w9.drew.cell? ⟨g12, 1, none⟩ = some (.int .i64 p.b)) := ⟨(blk_cell XC 1).trans rfl⟩
       have C2 : Aside0 (w9.drew.cell? ⟨g12, 2, none⟩ = some (.int .i64 p.c)) := ⟨(blk_cell XC 2).trans rfl⟩
       have C3 : Aside0 (w9.drew.cell? ⟨g12, 3, none⟩ = some (.int .i64 p.d)) := ⟨(blk_cell XC 3).trans rfl⟩
       have C4 : Aside0 (w9.drew.cell? ⟨g12, 4, none⟩ = some (.int .i64 p.t)) := ⟨(blk_cell XC 4).trans rfl⟩
       obtain ⟨cx, fx⟩ := Kd.R_celln false O9 p.t ht0 ht2
       rw [show rdOf false fl' p.t = x from by simp [rdOf, hx]] at cx
       have CX : Aside0 (w9.drew.cell? ⟨gi, p.t.toNat, none⟩ = some (.bool x)) := ⟨cx⟩
       have FX : Aside0 (w9.drew.frozen? ⟨gi, p.t.toNat, none⟩ = false) := ⟨fx⟩
       have L12 : Aside0 (g12 < w9.drew.heap.size) := ⟨blk_lt XC⟩
       have LI : Aside0 (gi < w9.drew.heap.size) := ⟨World.block_lt_of_cell? w9 ⟨gi, p.t.toNat, none⟩ cx⟩
       have NGb := Rb_ne_map HO8.out I8.out.map
       have NGr := Rb_ne_iter HO8.out I8.out
       have ht0' := eq_true ht0
       have ht2' := eq_true ht2
       have htd := decide_eq_true ht2
       clear XC O9 B9 cx fx Hrun HS'
       cases x with
       | true =>
        refine start_ (n := 16) (S := fun w' => w'.cell? ⟨g12, 0, none⟩ = some (.int .i64 p.a) ∧ w'.cell? ⟨g12, 1, none⟩ = some (.int .i64 p.b) ∧ w'.cell? ⟨g12, 2, none⟩ = some (.int .i64 p.c) ∧ w'.cell? ⟨g12, 3, none⟩ = some (.int .i64 p.d) ∧ w'.cell? ⟨g12, 4, none⟩ = some (.int .i64 p.t) ∧ w'.cell? ⟨gi, p.t.toNat, none⟩ = some (.bool true)) (ds := [15]) #[false, false, false, false, false, false, false, false, false, false, false, false, false, false, false, false] (by kernel_rfl) rfl rfl ⟨C0.out, C1.out, C2.out, C3.out, C4.out, CX.out⟩ (fun hHeld => ?_)
        generalize w9.drew = w10 at C0 C1 C2 C3 C4 CX L12 LI FX B10 O10 hHeld ⊢
        refine pure_ (i := 0) (N := some 33) (v := ?_) (a' := ?_) #[true, false, false, false, false, false, false, false, false, false, false, false, false, false, false, false] rfl rfl (by kernel_rfl) (fun _ _ _ h => h) (Or.inl ⟨by rfl, ?_⟩) ?_ ?_
        rotate_left
        ·intro w'
         go_simp
         with_reducible rfl
        rotate_left
        ·simp only [Act.put, List.setIfInBounds_toArray, List.set_cons_zero, List.set_cons_succ, i64_w, i32_w]
         rfl
        refine pure_ (i := 1) (N := some 34) (v := ?_) (a' := ?_) #[true, true, false, false, false, false, false, false, false, false, false, false, false, false, false, false] rfl rfl (by kernel_rfl) (fun _ _ _ h => h) (Or.inl ⟨by rfl, ?_⟩) ?_ ?_
        rotate_left
        ·intro w'
         go_simp
         with_reducible rfl
        rotate_left
        ·simp only [Act.put, List.setIfInBounds_toArray, List.set_cons_zero, List.set_cons_succ, i64_w, i32_w]
         rfl
        refine pure_ (i := 3) (N := some 36) (v := ?_) (a' := ?_) #[true, true, false, true, false, false, false, false, false, false, false, false, false, false, false, false] rfl rfl (by kernel_rfl) (fun _ _ _ h => h) (Or.inl ⟨by rfl, ?_⟩) ?_ ?_
        rotate_left
        ·intro w'
         go_simp
         with_reducible rfl
        rotate_left
        ·simp only [Act.put, List.setIfInBounds_toArray, List.set_cons_zero, List.set_cons_succ, i64_w, i32_w]
         rfl
        refine pure_ (i := 4) (N := some 37) (v := ?_) (a' := ?_) #[true, true, false, true, true, false, false, false, false, false, false, false, false, false, false, false] rfl rfl (by kernel_rfl) (fun _ _ _ h => h) (Or.inl ⟨by rfl, ?_⟩) ?_ ?_
        rotate_left
        ·intro w'
         go_simp
         with_reducible rfl
        rotate_left
        ·simp only [Act.put, List.setIfInBounds_toArray, List.set_cons_zero, List.set_cons_succ, i64_w, i32_w]
         rfl
        refine take_ (i := 2) (N := some 35) (v := ?_) (a' := ?_) #[true, true, true, true, true, false, false, false, false, false, false, false, false, false, false, false] rfl rfl (by kernel_rfl) (fun _ _ _ h => h) (Or.inl ⟨by rfl, ?_⟩) hHeld ?_ ?_
        rotate_left
        ·rintro w' ⟨s0, s1, s2, s3, s4, s5⟩
         go_simp
         with_reducible rfl
        rotate_left
        ·simp only [Act.put, List.setIfInBounds_toArray, List.set_cons_zero, List.set_cons_succ, i64_w, i32_w]
         rfl
        refine take_ (i := 5) (N := some 38) (v := ?_) (a' := ?_) #[true, true, true, true, true, true, false, false, false, false, false, false, false, false, false, false] rfl rfl (by kernel_rfl) (fun _ _ _ h => h) (Or.inl ⟨by rfl, ?_⟩) hHeld ?_ ?_
        rotate_left
        ·rintro w' ⟨s0, s1, s2, s3, s4, s5⟩
         go_simp
         with_reducible rfl
        rotate_left
        ·simp only [Act.put, List.setIfInBounds_toArray, List.set_cons_zero, List.set_cons_succ, i64_w, i32_w]
         rfl
        refine pure_ (i := 6) (N := some 39) (v := ?_) (a' := ?_) #[true, true, true, true, true, true, true, false, false, false, false, false, false, false, false, false] rfl rfl (by kernel_rfl) (fun _ _ _ h => h) (Or.inl ⟨by rfl, ?_⟩) ?_ ?_
        rotate_left
        ·intro w'
         go_simp
         with_reducible rfl
        rotate_left
        ·simp only [Act.put, List.setIfInBounds_toArray, List.set_cons_zero, List.set_cons_succ, i64_w, i32_w]
         rfl
        refine take_ (i := 7) (N := some 40) (v := ?_) (a' := ?_) #[true, true, true, true, true, true, true, true, false, false, false, false, false, false, false, false] rfl rfl (by kernel_rfl) (fun _ _ _ h => h) (Or.inl ⟨by rfl, ?_⟩) hHeld ?_ ?_
        rotate_left
        ·rintro w' ⟨s0, s1, s2, s3, s4, s5⟩
         go_simp
         with_reducible rfl
        rotate_left
        ·simp only [Act.put, List.setIfInBounds_toArray, List.set_cons_zero, List.set_cons_succ, i64_w, i32_w]
         rfl
        refine pure_ (i := 8) (N := some 41) (v := ?_) (a' := ?_) #[true, true, true, true, true, true, true, true, true, false, false, false, false, false, false, false] rfl rfl (by kernel_rfl) (fun _ _ _ h => h) (Or.inl ⟨by rfl, ?_⟩) ?_ ?_
        rotate_left
        ·intro w'
         go_simp
         with_reducible rfl
        rotate_left
        ·simp only [Act.put, List.setIfInBounds_toArray, List.set_cons_zero, List.set_cons_succ, i64_w, i32_w]
         rfl
        refine pure_ (i := 9) (N := some 42) (v := undef) (a' := ?_) #[true, true, true, true, true, true, true, true, true, true, false, false, false, false, false, false] rfl rfl (by kernel_rfl) (fun _ _ _ h => h) (Or.inr ⟨by rfl, rfl⟩) ?_ ?_
        rotate_left
        ·simp only [Act.put, List.setIfInBounds_toArray, List.set_cons_zero, List.set_cons_succ, i64_w, i32_w]
         rfl
        refine pure_ (i := 10) (N := some 43) (v := undef) (a' := ?_) #[true, true, true, true, true, true, true, true, true, true, true, false, false, false, false, false] rfl rfl (by kernel_rfl) (fun _ _ _ h => h) (Or.inr ⟨by rfl, rfl⟩) ?_ ?_
        rotate_left
        ·simp only [Act.put, List.setIfInBounds_toArray, List.set_cons_zero, List.set_cons_succ, i64_w, i32_w]
         rfl
        refine pure_ (i := 11) (N := some 44) (v := undef) (a' := ?_) #[true, true, true, true, true, true, true, true, true, true, true, true, false, false, false, false] rfl rfl (by kernel_rfl) (fun _ _ _ h => h) (Or.inr ⟨by rfl, rfl⟩) ?_ ?_
        rotate_left
        ·simp only [Act.put, List.setIfInBounds_toArray, List.set_cons_zero, List.set_cons_succ, i64_w, i32_w]
         rfl
        refine pure_ (i := 12) (N := some 45) (v := undef) (a' := ?_) #[true, true, true, true, true, true, true, true, true, true, true, true, true, false, false, false] rfl rfl (by kernel_rfl) (fun _ _ _ h => h) (Or.inr ⟨by rfl, rfl⟩) ?_ ?_
        rotate_left
        ·simp only [Act.put, List.setIfInBounds_toArray, List.set_cons_zero, List.set_cons_succ, i64_w, i32_w]
         rfl
        have CZ := FX.out
        have CY := CX.out
        have O13 := O10
        have B13 := B10
        refine pure_ (i := 13) (N := some 46) (v := ?_) (a' := ?_) #[true, true, true, true, true, true, true, true, true, true, true, true, true, true, false, false] rfl rfl (by kernel_rfl) (fun _ _ _ h => h) (Or.inl ⟨by rfl, ?_⟩) ?_ ?_
        rotate_left
        ·intro w'
         go_simp
         with_reducible rfl
        rotate_left
        ·simp only [Act.put, List.setIfInBounds_toArray, List.set_cons_zero, List.set_cons_succ, i64_w, i32_w]
         rfl
        refine pure_ (i := 14) (N := some 47) (v := ?_) (a' := ?_) #[true, true, true, true, true, true, true, true, true, true, true, true, true, true, true, false] rfl rfl (by kernel_rfl) (fun _ _ _ h => h) (Or.inl ⟨by rfl, ?_⟩) ?_ ?_
        rotate_left
        ·intro w'
         go_simp
         with_reducible rfl
        rotate_left
        ·simp only [Act.put, List.setIfInBounds_toArray, List.set_cons_zero, List.set_cons_succ, i64_w, i32_w]
         rfl
        refine last_ (i := 15) (N := none) #[true, true, true, true, true, true, true, true, true, true, true, true, true, true, true, true] rfl rfl (by kernel_rfl) (by decide) (fun K hK => ?_)
        refine skip_ (w1 := ?_) (by rfl) rfl ?_ ?_
        rotate_left
        ·go_simp
         rfl
        refine hK.out _ _ ?_
        clear hK K
        refine done_ (by kernel_rfl) ?_
        try go_wp2
        go_roundg k2
        case measure => have := HLT.out; omega
        case rel => exact ⟨left', fl'.set p.t.toNat true, ⟨by have := HLT.out; omega⟩, ⟨I8.out.of_eq ((Below.heap_setCell _ _ _ b NGb).trans (B13.out.block b I8.out.map.lt)) ((Below.heap_setCell _ _ _ r NGr).trans (B13.out.block r I8.out.lt))⟩, ⟨(HFr.out.set p.t.toNat (by omega) true (fun _ => rfl)).imp (fun t => by
         have e := left_step hq hmem (fun q => q.t = (t : Int) ∧ dz q = true)
         rw [or_assoc, e]
         have hi := ((HFr.out.2 p.t.toNat).mp hx).2
         constructor
         ·rintro (h | h | ⟨h, _⟩)
          ·exact Or.inl h
          ·exact Or.inr (Or.inl h)
          ·subst h
           rcases hi with h | h
           ·exact Or.inl h
           ·exact Or.inr (Or.inl h)
         ·rintro (h | h | ⟨h, _⟩)
          ·exact Or.inl h
          ·exact Or.inr (Or.inl h)
          ·exact Or.inr (Or.inr ⟨by omega, rfl⟩))⟩, ⟨Kd.R_mono (Kd.R_putg O13.out p.t true).1 (fun _ _ => trivial)⟩, ⟨(K8.out.below B13.out).setCell (Or.inl (Or.inl rfl)) _⟩, ⟨below_set (below_step HB8.out B13.out) GI.out⟩⟩
       | false =>
        refine start_ (n := 16) (S := fun w' => w'.cell? ⟨g12, 0, none⟩ = some (.int .i64 p.a) ∧ w'.cell? ⟨g12, 1, none⟩ = some (.int .i64 p.b) ∧ w'.cell? ⟨g12, 2, none⟩ = some (.int .i64 p.c) ∧ w'.cell? ⟨g12, 3, none⟩ = some (.int .i64 p.d) ∧ w'.cell? ⟨g12, 4, none⟩ = some (.int .i64 p.t) ∧ w'.cell? ⟨gi, p.t.toNat, none⟩ = some (.bool false)) (ds := [15]) #[false, false, false, false, false, false, false, false, false, false, false, false, false, false, false, false] (by kernel_rfl) rfl rfl ⟨C0.out, C1.out, C2.out, C3.out, C4.out, CX.out⟩ (fun hHeld => ?_)
        generalize w9.drew = w10 at C0 C1 C2 C3 C4 CX L12 LI FX B10 O10 hHeld ⊢
        refine pure_ (i := 0) (N := some 33) (v := ?_) (a' := ?_) #[true, false, false, false, false, false, false, false, false, false, false, false, false, false, false, false] rfl rfl (by kernel_rfl) (fun _ _ _ h => h) (Or.inl ⟨by rfl, ?_⟩) ?_ ?_
        rotate_left
        ·intro w'
         go_simp
         with_reducible rfl
        rotate_left
        ·simp only [Act.put, List.setIfInBounds_toArray, List.set_cons_zero, List.set_cons_succ, i64_w, i32_w]
         rfl
        refine pure_ (i := 1) (N := some 34) (v := ?_) (a' := ?_) #[true, true, false, false, false, false, false, false, false, false, false, false, false, false, false, false] rfl rfl (by kernel_rfl) (fun _ _ _ h => h) (Or.inl ⟨by rfl, ?_⟩) ?_ ?_
        rotate_left
        ·intro w'
         go_simp
         with_reducible rfl
        rotate_left
        ·simp only [Act.put, List.setIfInBounds_toArray, List.set_cons_zero, List.set_cons_succ, i64_w, i32_w]
         rfl
        refine pure_ (i := 3) (N := some 36) (v := ?_) (a' := ?_) #[true, true, false, true, false, false, false, false, false, false, false, false, false, false, false, false] rfl rfl (by kernel_rfl) (fun _ _ _ h => h) (Or.inl ⟨by rfl, ?_⟩) ?_ ?_
        rotate_left
        ·intro w'
         go_simp
         with_reducible rfl
        rotate_left
        ·simp only [Act.put, List.setIfInBounds_toArray, List.set_cons_zero, List.set_cons_succ, i64_w, i32_w]
         rfl
        refine pure_ (i := 4) (N := some 37) (v := ?_) (a' := ?_) #[true, true, false, true, true, false, false, false, false, false, false, false, false, false, false, false] rfl rfl (by kernel_rfl) (fun _ _ _ h => h) (Or.inl ⟨by rfl, ?_⟩) ?_ ?_
        rotate_left
        ·intro w'
         go_simp
         with_reducible rfl
        rotate_left
        ·simp only [Act.put, List.setIfInBounds_toArray, List.set_cons_zero, List.set_cons_succ, i64_w, i32_w]
         rfl
        refine take_ (i := 2) (N := some 35) (v := ?_) (a' := ?_) #[true, true, true, true, true, false, false, false, false, false, false, false, false, false, false, false] rfl rfl (by kernel_rfl) (fun _ _ _ h => h) (Or.inl ⟨by rfl, ?_⟩) hHeld ?_ ?_
        rotate_left
        ·rintro w' ⟨s0, s1, s2, s3, s4, s5⟩
         go_simp
         with_reducible rfl
        rotate_left
        ·simp only [Act.put, List.setIfInBounds_toArray, List.set_cons_zero, List.set_cons_succ, i64_w, i32_w]
         rfl
        refine take_ (i := 5) (N := some 38) (v := ?_) (a' := ?_) #[true, true, true, true, true, true, false, false, false, false, false, false, false, false, false, false] rfl rfl (by kernel_rfl) (fun _ _ _ h => h) (Or.inl ⟨by rfl, ?_⟩) hHeld ?_ ?_
        rotate_left
        ·rintro w' ⟨s0, s1, s2, s3, s4, s5⟩
         go_simp
         with_reducible rfl
        rotate_left
        ·simp only [Act.put, List.setIfInBounds_toArray, List.set_cons_zero, List.set_cons_succ, i64_w, i32_w]
         rfl
        refine pure_ (i := 6) (N := some 39) (v := ?_) (a' := ?_) #[true, true, true, true, true, true, true, false, false, false, false, false, false, false, false, false] rfl rfl (by kernel_rfl) (fun _ _ _ h => h) (Or.inl ⟨by rfl, ?_⟩) ?_ ?_
        rotate_left
        ·intro w'
         go_simp
         with_reducible rfl
        rotate_left
        ·simp only [Act.put, List.setIfInBounds_toArray, List.set_cons_zero, List.set_cons_succ, i64_w, i32_w]
         rfl
        refine take_ (i := 7) (N := some 40) (v := ?_) (a' := ?_) #[true, true, true, true, true, true, true, true, false, false, false, false, false, false, false, false] rfl rfl (by kernel_rfl) (fun _ _ _ h => h) (Or.inl ⟨by rfl, ?_⟩) hHeld ?_ ?_
        rotate_left
        ·rintro w' ⟨s0, s1, s2, s3, s4, s5⟩
         go_simp
         with_reducible rfl
        rotate_left
        ·simp only [Act.put, List.setIfInBounds_toArray, List.set_cons_zero, List.set_cons_succ, i64_w, i32_w]
         rfl
        refine pure_ (i := 8) (N := some 41) (v := ?_) (a' := ?_) #[true, true, true, true, true, true, true, true, true, false, false, false, false, false, false, false] rfl rfl (by kernel_rfl) (fun _ _ _ h => h) (Or.inl ⟨by rfl, ?_⟩) ?_ ?_
        rotate_left
        ·intro w'
         go_simp
         with_reducible rfl
        rotate_left
        ·simp only [Act.put, List.setIfInBounds_toArray, List.set_cons_zero, List.set_cons_succ, i64_w, i32_w]
         rfl
        refine pure_ (i := 9) (N := some 42) (v := ?_) (a' := ?_) #[true, true, true, true, true, true, true, true, true, true, false, false, false, false, false, false] rfl rfl (by kernel_rfl) (fun _ _ _ h => h) (Or.inl ⟨by rfl, ?_⟩) ?_ ?_
        rotate_left
        ·intro w'
         go_simp
         with_reducible rfl
        rotate_left
        ·simp only [Act.put, List.setIfInBounds_toArray, List.set_cons_zero, List.set_cons_succ, i64_w, i32_w]
         rfl
        refine pure_ (i := 10) (N := some 43) (v := ?_) (a' := ?_) #[true, true, true, true, true, true, true, true, true, true, true, false, false, false, false, false] rfl rfl (by kernel_rfl) (fun _ _ _ h => h) (Or.inl ⟨by rfl, ?_⟩) ?_ ?_
        rotate_left
        ·intro w'
         go_simp
         with_reducible rfl
        rotate_left
        ·simp only [Act.put, List.setIfInBounds_toArray, List.set_cons_zero, List.set_cons_succ, i64_w, i32_w]
         rfl
        refine take_ (i := 11) (N := some 44) (v := ?_) (a' := ?_) #[true, true, true, true, true, true, true, true, true, true, true, true, false, false, false, false] rfl rfl (by kernel_rfl) (fun _ _ _ h => h) (Or.inl ⟨by rfl, ?_⟩) hHeld ?_ ?_
        rotate_left
        ·rintro w' ⟨s0, s1, s2, s3, s4, s5⟩
         go_simp
         with_reducible rfl
        rotate_left
        ·simp only [Act.put, List.setIfInBounds_toArray, List.set_cons_zero, List.set_cons_succ, i64_w, i32_w]
         rfl
        refine one_ (i := 12) (N := some 45) #[true, true, true, true, true, true, true, true, true, true, true, true, true, false, false, false] rfl rfl (by kernel_rfl) (by decide) (fun K hK => ?_)
        refine goesV_ Try.func18 (by kernel_rfl) rfl #[.agg #[.int .i64 p.a, .int .i64 p.b, .int .i64 p.c, .int .i64 p.d]] (by rfl) rfl rfl (by rfl) (by (try simp only [List.map_toArray, List.map_cons, List.map_nil]); first | done | rfl) ?_
        with_reducible refine (CL.out p _).mono ?_
        rintro e w13 ⟨rfl, hb⟩
        refine ⟨_, rfl, ?_⟩
        have n0_ := Aside0.mk hb
        refine hK.out _ _ ⟨(n0_.out.cell (p := ⟨g12, 0, none⟩) L12.out).trans C0.out, (n0_.out.cell (p := ⟨g12, 1, none⟩) L12.out).trans C1.out, (n0_.out.cell (p := ⟨g12, 2, none⟩) L12.out).trans C2.out, (n0_.out.cell (p := ⟨g12, 3, none⟩) L12.out).trans C3.out, (n0_.out.cell (p := ⟨g12, 4, none⟩) L12.out).trans C4.out, (n0_.out.cell (p := ⟨gi, p.t.toNat, none⟩) LI.out).trans CX.out⟩ (fun hHeld => ?_)
        clear hK K
        have O13 := Aside0.mk (Kd.R_below O10.out n0_.out)
        have B13 := Aside0.mk (below_step B10.out n0_.out)
        have CZ := (n0_.out.frozen (p := ⟨gi, p.t.toNat, none⟩) LI.out).trans FX.out
        have CY := hHeld.2.2.2.2.2
        refine pure_ (i := 13) (N := some 46) (v := ?_) (a' := ?_) #[true, true, true, true, true, true, true, true, true, true, true, true, true, true, false, false] rfl rfl (by kernel_rfl) (fun _ _ _ h => h) (Or.inl ⟨by rfl, ?_⟩) ?_ ?_
        rotate_left
        ·intro w'
         go_simp
         with_reducible rfl
        rotate_left
        ·simp only [Act.put, List.setIfInBounds_toArray, List.set_cons_zero, List.set_cons_succ, i64_w, i32_w]
         rfl
        refine pure_ (i := 14) (N := some 47) (v := ?_) (a' := ?_) #[true, true, true, true, true, true, true, true, true, true, true, true, true, true, true, false] rfl rfl (by kernel_rfl) (fun _ _ _ h => h) (Or.inl ⟨by rfl, ?_⟩) ?_ ?_
        rotate_left
        ·intro w'
         go_simp
         with_reducible rfl
        rotate_left
        ·simp only [Act.put, List.setIfInBounds_toArray, List.set_cons_zero, List.set_cons_succ, i64_w, i32_w]
         rfl
        refine last_ (i := 15) (N := none) #[true, true, true, true, true, true, true, true, true, true, true, true, true, true, true, true] rfl rfl (by kernel_rfl) (by decide) (fun K hK => ?_)
        refine skip_ (w1 := ?_) (by rfl) rfl ?_ ?_
        rotate_left
        ·go_simp
         rfl
        refine hK.out _ _ ?_
        clear hK K
        refine done_ (by kernel_rfl) ?_
        have hz : dz p = (p.a == 0 && (p.b == 0 && (p.c == 0 && (p.d == 0)))) := by rw [← hdz]
        try go_wp2
        go_roundg k2
        case measure => have := HLT.out; omega
        case rel => exact ⟨left', fl'.set p.t.toNat (p.a == 0 && (p.b == 0 && (p.c == 0 && (p.d == 0)))), ⟨by have := HLT.out; omega⟩, ⟨I8.out.of_eq ((Below.heap_setCell _ _ _ b NGb).trans (B13.out.block b I8.out.map.lt)) ((Below.heap_setCell _ _ _ r NGr).trans (B13.out.block r I8.out.lt))⟩, ⟨(HFr.out.set p.t.toNat (by omega) (p.a == 0 && (p.b == 0 && (p.c == 0 && (p.d == 0)))) (fun h => by first | rfl | (rw [hx] at h; cases h))).imp (fun t => by
         have e := left_step hq hmem (fun q => q.t = (t : Int) ∧ dz q = true)
         rw [or_assoc, e, hz]
         constructor
         ·rintro (h | h | ⟨h, h'⟩)
          ·exact Or.inl h
          ·exact Or.inr (Or.inl h)
          ·exact Or.inr (Or.inr ⟨by omega, h'⟩)
         ·rintro (h | h | ⟨h, h'⟩)
          ·exact Or.inl h
          ·exact Or.inr (Or.inl h)
          ·exact Or.inr (Or.inr ⟨by omega, h'⟩))⟩, ⟨Kd.R_mono (Kd.R_putg O13.out p.t (p.a == 0 && (p.b == 0 && (p.c == 0 && (p.d == 0))))).1 (fun _ _ => trivial)⟩, ⟨(K8.out.below B13.out).setCell (Or.inl (Or.inl rfl)) _⟩, ⟨below_set (below_step HB8.out B13.out) GI.out⟩⟩
   ·have hn13 : n = 13 := by have := HN.out; omega
    subst hn13
    have hnf : decide (13 < bs.length) = false := decide_eq_false (by have := HLEN.out; omega)
    have hnf2 : decide ((13 : Int) < (bs.length : Int)) = false := decide_eq_false (by have := HLEN.out; omega)
    have hnf3 : decide (((13 : Nat) : Int) < (bs.length : Int)) = false := decide_eq_false (by have := HLEN.out; omega)
    have HFT := Aside0.mk (outF_told HF.out)
    have HOt := Aside0.mk (Kd.R_tight rfl HO.out)
    have HFL1 := Aside0.mk HF.out.1
    have GLr : Aside0 (gi < wr.heap.size) := ⟨Nat.lt_of_lt_of_le GL.out (Nat.le_trans W45.out.size KR.out.1)⟩
    clear HF HO KR
    go_wp2_with (first
     | ((with_reducible refine gate_dst (N := 49) rfl ?_); refine Kd.R_lit (Kd.int .i64) (w0 := w) w.heap.size 3 ?hg (N := 49) ?hd (xs := ([] : List Int)) (inner := []) (ok := fun k_ => k_ ≠ gi) (okp := fun k_ => k_ ≠ gi) ?hr ?hp (fun _ hk => hk) (by have := GLr.out; omega) HB.out (below_size HB.out) (by simp) ?_; (case hd => rfl); (case hg => rfl); (case hr => first | (go_simp; done) | (go_simp; rfl)); (case hp => exact (Reps.none _ _)); intro v49 w7 ho hb hg hat; have n0_ := Aside0.mk (Kd.R_grown HOt.out hg (by intro k_ _ e; cases e)); have GL7 : Aside0 (gi < w7.heap.size) := ⟨Nat.lt_of_lt_of_le GLr.out hg.size⟩; clear HB HOt GLr; have HB := Aside0.mk hb; have HOt := n0_; have HI := Aside0.mk ho; clear ho hb hg hat n0_))
    rw [← outF_one fl] at HI
    go_loopg [13, 14] (most.toNat + 2) (fun kq v13 v14 w' => ∃ (m : Nat), v14 = .int .i64 (m : Int) ∧ Aside0 (1 ≤ m ∧ m ≤ most.toNat + 1 ∧ m + kq = most.toNat + 3) ∧ Aside0 (Kd.R (Kd.int .i64) 3 w' w.heap.size (fun k_ => k_ ≠ gi) v13 (outF fl m)) ∧ Aside0 (Kd.bool.R 4 w' w.heap.size (fun k_ => some k_ = (Value.slice (some { block := gi, off := 0 }) fl0.length ci).ownBlock) (.slice (some ⟨gi, 0, none⟩) fl0.length ci) fl) ∧ Aside0 (gi < w'.heap.size) ∧ Aside0 (Below w.heap.size w w'))
    case atStart => exact ⟨1, rfl, ⟨by omega⟩, HI, HOt, GL7, HB⟩
    case round =>
     clear HI HOt GL7 HB
     obtain ⟨m, rfl, HM, HI, HOt, GLr, HB⟩ := hrel
     cases gk with
     | zero => exact absurd HM.out (by omega)
     | succ k2 =>
      have hwmm : m ≤ most.toNat → wrap64 ((m : Int) + 1) = ((m + 1 : Nat) : Int) := fun _ => by unfold wrap64; omega
      by_cases hm : m ≤ most.toNat
      ·have hm2 : decide ((m : Int) ≤ most) = true := decide_eq_true (by omega)
       have hwm3 := hwmm hm
       obtain ⟨x, hx⟩ : ∃ x, fl[m]? = some x := ⟨_, List.getElem?_eq_getElem (by rw [HFL1.out]; omega)⟩
       have hml : (m : Int) < (fl0.length : Int) := by rw [HFL.out.1]; omega
       obtain ⟨cx, fx⟩ := Kd.R_celln false HOt.out (m : Int) (Int.natCast_nonneg m) hml
       rw [show rdOf false fl (m : Int) = x from by simp [rdOf, hx], Int.toNat_natCast] at cx
       have hml1 : m < fl0.length := by omega
       have hml2 := decide_eq_true hml
       have hml3 := decide_eq_true hml1
       have HLM : Aside0 ((outF fl m).length ≤ 41) := ⟨by have := outF_len fl m; omega⟩
       clear hwmm fx
       cases x with
       | true =>
        go_wp2_with (first
         | ((with_reducible refine gate_builtin (b := .append) (xs := #[.tmp 59, .tmp 61]) rfl ?_); at_builtin; refine Kd.R_append (Kd.int .i64) (w0 := w) w.heap.size rfl (.tmp 59) (.tmp 61) 25 3 (.int .i64 0) 8 rfl Try.underlying25 info3 rfl (by decide) (by omega) _ (outF fl m) (m : Int) [.int .i64 (m : Int)] (fun k_ => k_ ≠ gi) (fun _ => False) rfl rfl ?aP (fun _ hk => hk.elim) ?aF ?aO ?aB ?aS ?aL ?_; (case aP => exact rfl); (case aB => exact HB.out); (case aF => exact (fun k_ hk => by have := GLr.out; omega)); (case aO => exact HI.out); (case aS => exact below_size HB.out); (case aL => have := HLM.out; omega); intro v62 w8 ho hb hg hat; have HI8 := Aside0.mk ho; have HB8 := Aside0.mk hb; have HO8 := Aside0.mk (Kd.R_grown HOt.out hg (by intro k_ e h; rw [e] at h; injection e with e; exact HI.out.1 gi h.symm rfl)); have GL8 : Aside0 (gi < w8.heap.size) := ⟨Nat.lt_of_lt_of_le GLr.out hg.size⟩; clear ho hb hg hat))
        rw [← outF_true fl m HM.out.1 hx] at HI8
        go_roundg k2
        case measure => have := HM.out; omega
        case rel => exact ⟨m + 1, (by first | exact congrArg (Value.int .i64) hwm3 | rfl | (simp; done)), ⟨by have := HM.out; omega⟩, HI8, HO8, GL8, HB8⟩
       | false =>
        rw [← outF_false fl m hx] at HI
        go_wp2
        go_roundg k2
        case measure => have := HM.out; omega
        case rel => exact ⟨m + 1, (by first | exact congrArg (Value.int .i64) hwm3 | rfl | (simp; done)), ⟨by have := HM.out; omega⟩, HI, HOt, GLr, HB⟩
      ·have hm2 : decide ((m : Int) ≤ most) = false := decide_eq_false (by omega)
       have hme : m = most.toNat + 1 := by have := HM.out; omega
       have HIf := HI.out
       rw [hme, HFT.out] at HIf
       have HIf := Aside0.mk HIf
       clear hwmm
       go_wp2
       go_ret
       exact ⟨_, rfl, Kd.R_mono HIf.out (fun _ _ => trivial), HB.out⟩

/-! ### what is told, as a function -/
def turnP (K s : Int) (on : Bool) : Int := if on = true then K - s else s
def bitP (set m : Int) : Bool := (set / m) % 2 == 1
def least0 (m n : Int) : Int := if 0 < n ∧ (m = 0 ∨ n < m) then n else m
def nextP (a b c d : Int) : Int := least0 (least0 (least0 (least0 0 a) b) c) d
def passP (d n : Int) : Int := max (n - min d n) 0
def stepOf (a b c d : Int) : Int × Int × Int × Int × Int := (passP (nextP a b c d) a, passP (nextP a b c d) b, passP (nextP a b c d) c, passP (nextP a b c d) d, nextP a b c d)
def stepP (K0 K1 K2 K3 : Int) (p : Sp) (set : Int) : Int × Int × Int × Int × Int := stepOf (turnP K0 p.a (bitP set 1)) (turnP K1 p.b (bitP set 2)) (turnP K2 p.c (bitP set 4)) (turnP K3 p.d (bitP set 8))
def setOk (K0 K1 K2 K3 set : Int) : Bool := (!bitP set 1 || decide (0 < K0)) && (!bitP set 2 || decide (0 < K1)) && (!bitP set 4 || decide (0 < K2)) && (!bitP set 8 || decide (0 < K3))
def setsP (K0 K1 K2 K3 : Int) : List Int := [0, 1, 2, 3, 4, 5, 6, 7, 8, 9, 10, 11, 12, 13, 14, 15].filter (setOk K0 K1 K2 K3)
open Classical in
noncomputable def toldF (K0 K1 K2 K3 s0 s1 s2 s3 most : Int) (dz : Sp → Bool) : Option (List Int) :=
  if (∃ k G, LvOk (stepP K0 K1 K2 K3) k K0 K1 K2 K3 most (setsP K0 K1 K2 K3) ⟨s0, s1, s2, s3, 0⟩ G ∧ ∀ p, G p → p.t ≤ most) then some (toldL (stepP K0 K1 K2 K3) most (setsP K0 K1 K2 K3) ⟨s0, s1, s2, s3, 0⟩ dz) else none
theorem toldF_18 (K0 K1 K2 K3 s0 s1 s2 s3 most : Int) (r : List Int) (w : World) (h : toldF K0 K1 K2 K3 s0 s1 s2 s3 most (fun p => p.a == 0 && (p.b == 0 && (p.c == 0 && (p.d == 0)))) = some r) :
 Calls Try.prog 17 #[.agg #[.int .i64 K0, .int .i64 K1, .int .i64 K2, .int .i64 K3], .agg #[.int .i64 s0, .int .i64 s1, .int .i64 s2, .int .i64 s3], .int .i64 most, .func (.func 18) #[] #[]] w fun e w' => ∃ v0_ : Value, e = .returned v0_ ∧ Kd.R (Kd.int .i64) 3 w' w.heap.size (fun _ => True) v0_ r ∧ Below w.heap.size w w' := by
 unfold toldF at h
 split at h
 ·rename_i hk
  obtain ⟨k, G, ok, hG⟩ := hk
  cases h
  exact told_18 _ k K0 K1 K2 K3 most _ ⟨s0, s1, s2, s3, 0⟩ rfl G ok hG w
 ·cases h
end Go.Proofs.Ytmhnllcdfjggaaa.Lv
