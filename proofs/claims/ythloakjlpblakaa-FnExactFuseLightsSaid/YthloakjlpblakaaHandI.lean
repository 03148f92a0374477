/- A fuse's parts; the times at which its ropes burn out; how many kinds of fuses are in it. Conditions: those each lemma names. -/
import Derived.Test.YthloakjlpblakaaHandH
set_option linter.unusedVariables false
set_option linter.unusedSimpArgs false
namespace Go.Proofs.Ythloakjlpblakaa.PB
open Go.RowKit Go.Proofs.YthloakjlpblakaaW.PrintWords Go.Proofs.YthloakjlpblakaaW.PrintLast Go.Proofs.YthloakjlpblakaaW.PrintMore Go.Proofs.YthloakjlpblakaaX

/-- A fuse and all that it is made of, if they have ropes. -/
def nodes : FT → List FT
  | .spark => []
  | .node n d a b => .node n d a b :: (nodes a ++ nodes b)
theorem nodes_length : ∀ t : FT, (nodes t).length = t.ropes
  | .spark => rfl
  | .node _ _ a b => by simp only [nodes, List.length_cons, List.length_append, nodes_length a, nodes_length b, FT.ropes]
set_option maxHeartbeats 8000000 in
set_option maxRecDepth 100000 in
theorem parts_calls : ∀ (t : FT) (w : World) (g : Nat), FAt w t g → t.ropes ≤ 8 → Calls Try.prog 60 #[.pointer (some ⟨g, 0, none⟩)] w fun e w' => ∃ v l, e = .returned v ∧ Kd.R kG 63 w' w.heap.size (fun _ => True) v l ∧ At2 w' (nodes t) l ∧ Below w.heap.size w w' := by
  intro t
  induction t with
  | spark =>
    intro w g h _
    have c5 : w.cell? ⟨g, 5, none⟩ = some (.int .i64 0) := (blk_cell h 5).trans rfl
    clear h
    go_enter Try.func60, Try.ntmps60
    go_wp2
    go_ret
    exact ⟨_, [], rfl, Kd.R_nil _ _ _ _ _, trivial, by repeat (first | exact Below.refl _ _ | apply below_drew1 | apply pw_below_drewN)⟩
  | node n d a b iha ihb =>
    intro w g h hr
    obtain ⟨ga, gb, hc, hA, hB⟩ := h
    have HFT := Aside0.mk (show FAt w (.node n d a b) g from ⟨ga, gb, hc, hA, hB⟩)
    simp only [FT.ropes] at hr
    have C0 : Aside0 (w.cell? ⟨g, 0, none⟩ = some (.pointer (some ⟨ga, 0, none⟩))) := ⟨(blk_cell hc 0).trans rfl⟩
    have C1 : Aside0 (w.cell? ⟨g, 1, none⟩ = some (.pointer (some ⟨gb, 0, none⟩))) := ⟨(blk_cell hc 1).trans rfl⟩
    have HG : Aside0 (g < w.heap.size) := ⟨blk_lt hc⟩
    obtain ⟨m, hm⟩ : ∃ m : Int, m = (((FT.node n d a b).ropes : Nat) : Int) := ⟨_, rfl⟩
    have c5 : w.cell? ⟨g, 5, none⟩ = some (.int .i64 m) := by rw [hm]; exact (blk_cell hc 5).trans rfl
    have hm0 : (m == 0) = false := by
      have : m ≠ 0 := by rw [hm]; simp only [FT.ropes]; omega
      simpa using this
    have CA : Aside0 (∀ W, Below w.heap.size w W → Calls Try.prog 60 #[.pointer (some ⟨ga, 0, none⟩)] W fun e w' => ∃ v l, e = .returned v ∧ Kd.R kG 63 w' W.heap.size (fun _ => True) v l ∧ At2 w' (nodes a) l ∧ Below W.heap.size W w') := ⟨fun W hb => iha W ga (hA.below hb) (by omega)⟩
    have CB : Aside0 (∀ W, Below w.heap.size w W → Calls Try.prog 60 #[.pointer (some ⟨gb, 0, none⟩)] W fun e w' => ∃ v l, e = .returned v ∧ Kd.R kG 63 w' W.heap.size (fun _ => True) v l ∧ At2 w' (nodes b) l ∧ Below W.heap.size W w') := ⟨fun W hb => ihb W gb (hB.below hb) (by omega)⟩
    have HLEN : Aside0 (∀ l1 l2 : List (Option Nat), l1.length = (nodes a).length → l2.length = (nodes b).length → tot [[some g], l1, l2] ≤ 1000000) := ⟨fun l1 l2 h1 h2 => by
      rw [nodes_length] at h1 h2
      simp only [tot, List.map_cons, List.map_nil, List.sum_cons, List.sum_nil, List.length_singleton, h1, h2]
      omega⟩
    clear iha ihb hc hA hB hr hm
    go_enter Try.func60, Try.ntmps60
    go_upto_region 3 with fail
    have HI := Aside0.mk (Below.refl w.heap.size w)
    have n0_ := Aside0.mk (below_step HI.out (below_drew1 (Below.refl _ _)))
    clear HI
    have HI := n0_
    clear n0_
    refine start_ (n := 15) (S := fun w' => w'.cell? ⟨g, 0, none⟩ = some (.pointer (some ⟨ga, 0, none⟩)) ∧ w'.cell? ⟨g, 1, none⟩ = some (.pointer (some ⟨gb, 0, none⟩))) (ds := []) #[false, false, false, false, false, false, false, false, false, false, false, false, false, false, false] (by kernel_rfl) rfl rfl ⟨(Below.cell HI.out HG.out).trans C0.out, (Below.cell HI.out HG.out).trans C1.out⟩ (fun hHeld => ?_)
    generalize w.drew = wr0 at HI hHeld ⊢
    refine pure_ (i := 0) (N := some 8) (v := ?_) (a' := ?_) #[true, false, false, false, false, false, false, false, false, false, false, false, false, false, false] rfl rfl (by kernel_rfl) (fun _ _ _ h => h) (Or.inl ⟨by rfl, ?_⟩) ?_ ?_
    rotate_left
    · intro w'
      go_simp
      with_reducible rfl
    rotate_left
    · simp only [Act.put, List.setIfInBounds_toArray, List.set_cons_zero, List.set_cons_succ, i64_w, i32_w]
      rfl
    refine pure_ (i := 2) (N := some 10) (v := ?_) (a' := ?_) #[true, false, true, false, false, false, false, false, false, false, false, false, false, false, false] rfl rfl (by kernel_rfl) (fun _ _ _ h => h) (Or.inl ⟨by rfl, ?_⟩) ?_ ?_
    rotate_left
    · intro w'
      go_simp
      with_reducible rfl
    rotate_left
    · simp only [Act.put, List.setIfInBounds_toArray, List.set_cons_zero, List.set_cons_succ, i64_w, i32_w]
      rfl
    refine pure_ (i := 3) (N := some 11) (v := ?_) (a' := ?_) #[true, false, true, true, false, false, false, false, false, false, false, false, false, false, false] rfl rfl (by kernel_rfl) (fun _ _ _ h => h) (Or.inl ⟨by rfl, ?_⟩) ?_ ?_
    rotate_left
    · intro w'
      go_simp
      with_reducible rfl
    rotate_left
    · simp only [Act.put, List.setIfInBounds_toArray, List.set_cons_zero, List.set_cons_succ, i64_w, i32_w]
      rfl
    refine pure_ (i := 4) (N := some 12) (v := ?_) (a' := ?_) #[true, false, true, true, true, false, false, false, false, false, false, false, false, false, false] rfl rfl (by kernel_rfl) (fun _ _ _ h => h) (Or.inl ⟨by rfl, ?_⟩) ?_ ?_
    rotate_left
    · intro w'
      go_simp
      with_reducible rfl
    rotate_left
    · simp only [Act.put, List.setIfInBounds_toArray, List.set_cons_zero, List.set_cons_succ, i64_w, i32_w]
      rfl
    refine pure_ (i := 7) (N := some 15) (v := ?_) (a' := ?_) #[true, false, true, true, true, false, false, true, false, false, false, false, false, false, false] rfl rfl (by kernel_rfl) (fun _ _ _ h => h) (Or.inl ⟨by rfl, ?_⟩) ?_ ?_
    rotate_left
    · intro w'
      go_simp
      with_reducible rfl
    rotate_left
    · simp only [Act.put, List.setIfInBounds_toArray, List.set_cons_zero, List.set_cons_succ, i64_w, i32_w]
      rfl
    refine pure_ (i := 8) (N := some 16) (v := ?_) (a' := ?_) #[true, false, true, true, true, false, false, true, true, false, false, false, false, false, false] rfl rfl (by kernel_rfl) (fun _ _ _ h => h) (Or.inl ⟨by rfl, ?_⟩) ?_ ?_
    rotate_left
    · intro w'
      go_simp
      with_reducible rfl
    rotate_left
    · simp only [Act.put, List.setIfInBounds_toArray, List.set_cons_zero, List.set_cons_succ, i64_w, i32_w]
      rfl
    refine pure_ (i := 9) (N := some 17) (v := ?_) (a' := ?_) #[true, false, true, true, true, false, false, true, true, true, false, false, false, false, false] rfl rfl (by kernel_rfl) (fun _ _ _ h => h) (Or.inl ⟨by rfl, ?_⟩) ?_ ?_
    rotate_left
    · intro w'
      go_simp
      with_reducible rfl
    rotate_left
    · simp only [Act.put, List.setIfInBounds_toArray, List.set_cons_zero, List.set_cons_succ, i64_w, i32_w]
      rfl
    refine take_ (i := 5) (N := some 13) (v := ?_) (a' := ?_) #[true, false, true, true, true, true, false, true, true, true, false, false, false, false, false] rfl rfl (by kernel_rfl) (fun _ _ _ h => h) (Or.inl ⟨by rfl, ?_⟩) hHeld ?_ ?_
    rotate_left
    · rintro w' ⟨s0, s1⟩
      go_simp
      with_reducible rfl
    rotate_left
    · simp only [Act.put, List.setIfInBounds_toArray, List.set_cons_zero, List.set_cons_succ, i64_w, i32_w]
      rfl
    refine take_ (i := 10) (N := some 18) (v := ?_) (a' := ?_) #[true, false, true, true, true, true, false, true, true, true, true, false, false, false, false] rfl rfl (by kernel_rfl) (fun _ _ _ h => h) (Or.inl ⟨by rfl, ?_⟩) hHeld ?_ ?_
    rotate_left
    · rintro w' ⟨s0, s1⟩
      go_simp
      with_reducible rfl
    rotate_left
    · simp only [Act.put, List.setIfInBounds_toArray, List.set_cons_zero, List.set_cons_succ, i64_w, i32_w]
      rfl
    refine join_ (σ := Value × Value × (List (Option Nat)) × Value × (List (Option Nat))) 3 #[true, true, true, true, true, true, true, true, true, true, true, true, false, false, false] (fun s_ => [(9, s_.1), (14, s_.2.1), (19, s_.2.2.2.1)]) (fun s_ w' => (w'.cell? ⟨g, 0, none⟩ = some (.pointer (some ⟨ga, 0, none⟩)) ∧ w'.cell? ⟨g, 1, none⟩ = some (.pointer (some ⟨gb, 0, none⟩))) ∧ (Below w.heap.size w w') ∧ (Kd.R kG 63 w' w.heap.size (fun _ => True) s_.1 [some g]) ∧ (Kd.R kG 63 w' w.heap.size (fun _ => True) s_.2.1 s_.2.2.1) ∧ (At2 w' (nodes a) s_.2.2.1) ∧ (Kd.R kG 63 w' w.heap.size (fun _ => True) s_.2.2.2.1 s_.2.2.2.2) ∧ (At2 w' (nodes b) s_.2.2.2.2)) ?_ ?_
    rotate_left
    · intro hJ1_6_11
      refine join_ (σ := Value × Value × (List (Option Nat))) 4 #[true, true, true, true, true, true, true, true, true, true, true, false, false, false, false] (fun s_ => [(9, s_.1), (14, s_.2.1)]) (fun s_ w' => (w'.cell? ⟨g, 0, none⟩ = some (.pointer (some ⟨ga, 0, none⟩)) ∧ w'.cell? ⟨g, 1, none⟩ = some (.pointer (some ⟨gb, 0, none⟩))) ∧ (Below w.heap.size w w') ∧ (Kd.R kG 63 w' w.heap.size (fun _ => True) s_.1 [some g]) ∧ (Kd.R kG 63 w' w.heap.size (fun _ => True) s_.2.1 s_.2.2) ∧ (At2 w' (nodes a) s_.2.2)) ?_ ?_
      rotate_left
      · intro hJ1_6
        refine join_ (σ := Value × (List (Option Nat)) × Value × (List (Option Nat))) 4 #[true, false, true, true, true, true, true, true, true, true, true, true, false, false, false] (fun s_ => [(14, s_.1), (19, s_.2.2.1)]) (fun s_ w' => (w'.cell? ⟨g, 0, none⟩ = some (.pointer (some ⟨ga, 0, none⟩)) ∧ w'.cell? ⟨g, 1, none⟩ = some (.pointer (some ⟨gb, 0, none⟩))) ∧ (Below w.heap.size w w') ∧ (Kd.R kG 63 w' w.heap.size (fun _ => True) s_.1 s_.2.1) ∧ (At2 w' (nodes a) s_.2.1) ∧ (Kd.R kG 63 w' w.heap.size (fun _ => True) s_.2.2.1 s_.2.2.2) ∧ (At2 w' (nodes b) s_.2.2.2)) ?_ ?_
        rotate_left
        · intro hJ6_11
          refine join_ (σ := Value) 5 #[true, true, true, true, true, true, false, true, true, true, true, false, false, false, false] (fun s_ => [(9, s_)]) (fun s_ w' => (w'.cell? ⟨g, 0, none⟩ = some (.pointer (some ⟨ga, 0, none⟩)) ∧ w'.cell? ⟨g, 1, none⟩ = some (.pointer (some ⟨gb, 0, none⟩))) ∧ (Below w.heap.size w w') ∧ (Kd.R kG 63 w' w.heap.size (fun _ => True) s_ [some g])) ?_ ?_
          rotate_left
          · intro hJ1
            refine join_ (σ := Value × (List (Option Nat))) 5 #[true, false, true, true, true, true, true, true, true, true, true, false, false, false, false] (fun s_ => [(14, s_.1)]) (fun s_ w' => (w'.cell? ⟨g, 0, none⟩ = some (.pointer (some ⟨ga, 0, none⟩)) ∧ w'.cell? ⟨g, 1, none⟩ = some (.pointer (some ⟨gb, 0, none⟩))) ∧ (Below w.heap.size w w') ∧ (Kd.R kG 63 w' w.heap.size (fun _ => True) s_.1 s_.2) ∧ (At2 w' (nodes a) s_.2)) ?_ ?_
            rotate_left
            · intro hJ6
              refine two_ (i := 1) (j := 6) (Ni := some 9) (Nj := some 14) #[true, true, true, true, true, true, false, true, true, true, true, false, false, false, false] #[true, false, true, true, true, true, true, true, true, true, true, false, false, false, false] rfl rfl rfl rfl (by kernel_rfl) (by decide) (by decide) (fun K hK => ?_) (fun K hK => ?_)
              · skip
                refine Kd.R_lit_step kG (w0 := _) _ 63 ?hw (N := 9) ?hd (xs := [some g]) (inner := [.pointer (some ⟨g, 0, none⟩)]) (ok := fun _ => True) (okp := fun _ => True) ?hr ?hp (fun _ hk => hk) trivial (Below.refl _ _) (Nat.le_refl _) (by simp) ?_; (case hd => rfl); (case hw => rfl); (case hr => first | (go_simp; done) | (go_simp; rfl)); (case hp => exact (Reps.one (show Kd.M kG _ _ _ (some g) [.pointer (some ⟨g, 0, none⟩)] from rfl) (Reps.none _ _)))
                intro v9 wr6 ho hb hg_ hat_; clear hg_ hat_
                have m9_ := Aside0.mk (Kd.R_lower ho (below_size HI.out)); clear ho
                have n0_ := Aside0.mk (below_step HI.out hb)
                clear HI
                have HI := n0_
                clear n0_
                clear hb
                have HR9 := m9_; clear m9_
                refine hK.out _ _ ⟨(Below.cell HI.out HG.out).trans C0.out, (Below.cell HI.out HG.out).trans C1.out⟩ (fun hHeld => ?_)
                clear hK K
                refine norm_ (a' := ?_) ?_ ?_
                rotate_left
                · show Act.put _ (some 9) _ = _
                  simp only [Act.put, List.setIfInBounds_toArray, List.set_cons_zero, List.set_cons_succ, i64_w, i32_w]
                  rfl
                exact norm_ (by first | (simp only [putAll, Act.put, List.setIfInBounds_toArray, List.set_cons_zero, List.set_cons_succ]; done) | (simp only [putAll, Act.put, List.setIfInBounds_toArray, List.set_cons_zero, List.set_cons_succ]; rfl)) (hJ1 (v9) _ ⟨hHeld, HI.out, HR9.out⟩)
              · skip
                refine goes_ Try.func60 (by kernel_rfl) rfl #[.pointer (some ⟨ga, 0, none⟩)] (by rfl) rfl rfl (by (try simp only [List.map_toArray, List.map_cons, List.map_nil]); first | done | rfl) ?_
                with_reducible refine (CA.out _ HI.out).mono ?_
                rintro e wr7 ⟨v14, l14, rfl, ho, ht, hb⟩
                refine ⟨_, rfl, ?_⟩
                have m14_ := Aside0.mk (Kd.R_lower ho (below_size HI.out)); have mt14_ := Aside0.mk ht; clear ho ht
                have n0_ := Aside0.mk (below_step HI.out hb)
                clear HI
                have HI := n0_
                clear n0_
                clear hb
                have HR14 := m14_; have HT14 := mt14_; clear m14_ mt14_
                refine hK.out _ _ ⟨(Below.cell HI.out HG.out).trans C0.out, (Below.cell HI.out HG.out).trans C1.out⟩ (fun hHeld => ?_)
                clear hK K
                refine norm_ (a' := ?_) ?_ ?_
                rotate_left
                · show Act.put _ (some 14) _ = _
                  simp only [Act.put, List.setIfInBounds_toArray, List.set_cons_zero, List.set_cons_succ, i64_w, i32_w]
                  rfl
                exact norm_ (by first | (simp only [putAll, Act.put, List.setIfInBounds_toArray, List.set_cons_zero, List.set_cons_succ]; done) | (simp only [putAll, Act.put, List.setIfInBounds_toArray, List.set_cons_zero, List.set_cons_succ]; rfl)) (hJ6 (v14, l14) _ ⟨hHeld, HI.out, HR14.out, HT14.out⟩)
            · skip
              rintro ⟨v14, l14⟩ wr5 ⟨hS_, h0_, h1_, h2_⟩
              have n0_ : Aside0 (Below w.heap.size w wr5) := ⟨h0_⟩
              have n1_ : Aside0 (Kd.R kG 63 wr5 w.heap.size (fun _ => True) v14 l14) := ⟨h1_⟩
              have n2_ : Aside0 (At2 wr5 (nodes a) l14) := ⟨h2_⟩
              clear HI
              clear h0_ h1_ h2_
              have HI := n0_
              have HR14 := n1_
              have HT14 := n2_
              clear n0_ n1_ n2_
              have hHeld : wr5.cell? ⟨g, 0, none⟩ = some (.pointer (some ⟨ga, 0, none⟩)) ∧ wr5.cell? ⟨g, 1, none⟩ = some (.pointer (some ⟨gb, 0, none⟩)) := hS_
              refine norm_ (a' := ?_) ?_ ?_
              rotate_left
              · simp only [putAll, Act.put, List.setIfInBounds_toArray, List.set_cons_zero, List.set_cons_succ]
                rfl
              refine two_ (i := 1) (j := 11) (Ni := some 9) (Nj := some 19) #[true, true, true, true, true, true, true, true, true, true, true, false, false, false, false] #[true, false, true, true, true, true, true, true, true, true, true, true, false, false, false] rfl rfl rfl rfl (by kernel_rfl) (by decide) (by decide) (fun K hK => ?_) (fun K hK => ?_)
              · skip
                refine Kd.R_lit_step kG (w0 := _) _ 63 ?hw (N := 9) ?hd (xs := [some g]) (inner := [.pointer (some ⟨g, 0, none⟩)]) (ok := fun _ => True) (okp := fun _ => True) ?hr ?hp (fun _ hk => hk) trivial (Below.refl _ _) (Nat.le_refl _) (by simp) ?_; (case hd => rfl); (case hw => rfl); (case hr => first | (go_simp; done) | (go_simp; rfl)); (case hp => exact (Reps.one (show Kd.M kG _ _ _ (some g) [.pointer (some ⟨g, 0, none⟩)] from rfl) (Reps.none _ _)))
                intro v9 wr8 ho hb hg_ hat_; clear hg_ hat_
                have m9_ := Aside0.mk (Kd.R_lower ho (below_size HI.out)); clear ho
                have n0_ := Aside0.mk (below_step HI.out hb)
                have n1_ := Aside0.mk (Kd.R_below HR14.out hb)
                have n2_ := Aside0.mk (HT14.out.below hb)
                clear HI HR14 HT14
                have HI := n0_
                have HR14 := n1_
                have HT14 := n2_
                clear n0_ n1_ n2_
                clear hb
                have HR9 := m9_; clear m9_
                refine hK.out _ _ ⟨(Below.cell HI.out HG.out).trans C0.out, (Below.cell HI.out HG.out).trans C1.out⟩ (fun hHeld => ?_)
                clear hK K
                refine norm_ (a' := ?_) ?_ ?_
                rotate_left
                · show Act.put _ (some 9) _ = _
                  simp only [Act.put, List.setIfInBounds_toArray, List.set_cons_zero, List.set_cons_succ, i64_w, i32_w]
                  rfl
                exact norm_ (by first | (simp only [putAll, Act.put, List.setIfInBounds_toArray, List.set_cons_zero, List.set_cons_succ]; done) | (simp only [putAll, Act.put, List.setIfInBounds_toArray, List.set_cons_zero, List.set_cons_succ]; rfl)) (hJ1_6 (v9, v14, l14) _ ⟨hHeld, HI.out, HR9.out, HR14.out, HT14.out⟩)
              · skip
                refine goes_ Try.func60 (by kernel_rfl) rfl #[.pointer (some ⟨gb, 0, none⟩)] (by rfl) rfl rfl (by (try simp only [List.map_toArray, List.map_cons, List.map_nil]); first | done | rfl) ?_
                with_reducible refine (CB.out _ HI.out).mono ?_
                rintro e wr9 ⟨v19, l19, rfl, ho, ht, hb⟩
                refine ⟨_, rfl, ?_⟩
                have m19_ := Aside0.mk (Kd.R_lower ho (below_size HI.out)); have mt19_ := Aside0.mk ht; clear ho ht
                have n0_ := Aside0.mk (below_step HI.out hb)
                have n1_ := Aside0.mk (Kd.R_below HR14.out hb)
                have n2_ := Aside0.mk (HT14.out.below hb)
                clear HI HR14 HT14
                have HI := n0_
                have HR14 := n1_
                have HT14 := n2_
                clear n0_ n1_ n2_
                clear hb
                have HR19 := m19_; have HT19 := mt19_; clear m19_ mt19_
                refine hK.out _ _ ⟨(Below.cell HI.out HG.out).trans C0.out, (Below.cell HI.out HG.out).trans C1.out⟩ (fun hHeld => ?_)
                clear hK K
                refine norm_ (a' := ?_) ?_ ?_
                rotate_left
                · show Act.put _ (some 19) _ = _
                  simp only [Act.put, List.setIfInBounds_toArray, List.set_cons_zero, List.set_cons_succ, i64_w, i32_w]
                  rfl
                exact norm_ (by first | (simp only [putAll, Act.put, List.setIfInBounds_toArray, List.set_cons_zero, List.set_cons_succ]; done) | (simp only [putAll, Act.put, List.setIfInBounds_toArray, List.set_cons_zero, List.set_cons_succ]; rfl)) (hJ6_11 (v14, l14, v19, l19) _ ⟨hHeld, HI.out, HR14.out, HT14.out, HR19.out, HT19.out⟩)
          · skip
            rintro v9 wr4 ⟨hS_, h0_, h1_⟩
            have n0_ : Aside0 (Below w.heap.size w wr4) := ⟨h0_⟩
            have n1_ : Aside0 (Kd.R kG 63 wr4 w.heap.size (fun _ => True) v9 [some g]) := ⟨h1_⟩
            clear HI
            clear h0_ h1_
            have HI := n0_
            have HR9 := n1_
            clear n0_ n1_
            have hHeld : wr4.cell? ⟨g, 0, none⟩ = some (.pointer (some ⟨ga, 0, none⟩)) ∧ wr4.cell? ⟨g, 1, none⟩ = some (.pointer (some ⟨gb, 0, none⟩)) := hS_
            refine norm_ (a' := ?_) ?_ ?_
            rotate_left
            · simp only [putAll, Act.put, List.setIfInBounds_toArray, List.set_cons_zero, List.set_cons_succ]
              rfl
            refine one_ (i := 6) (N := some 14) #[true, true, true, true, true, true, true, true, true, true, true, false, false, false, false] rfl rfl (by kernel_rfl) (by decide) (fun K hK => ?_)
            refine goes_ Try.func60 (by kernel_rfl) rfl #[.pointer (some ⟨ga, 0, none⟩)] (by rfl) rfl rfl (by (try simp only [List.map_toArray, List.map_cons, List.map_nil]); first | done | rfl) ?_
            with_reducible refine (CA.out _ HI.out).mono ?_
            rintro e wr10 ⟨v14, l14, rfl, ho, ht, hb⟩
            refine ⟨_, rfl, ?_⟩
            have m14_ := Aside0.mk (Kd.R_lower ho (below_size HI.out)); have mt14_ := Aside0.mk ht; clear ho ht
            have n0_ := Aside0.mk (below_step HI.out hb)
            have n1_ := Aside0.mk (Kd.R_below HR9.out hb)
            clear HI HR9
            have HI := n0_
            have HR9 := n1_
            clear n0_ n1_
            clear hb
            have HR14 := m14_; have HT14 := mt14_; clear m14_ mt14_
            refine hK.out _ _ ⟨(Below.cell HI.out HG.out).trans C0.out, (Below.cell HI.out HG.out).trans C1.out⟩ (fun hHeld => ?_)
            clear hK K
            refine norm_ (a' := ?_) ?_ ?_
            rotate_left
            · show Act.put _ (some 14) _ = _
              simp only [Act.put, List.setIfInBounds_toArray, List.set_cons_zero, List.set_cons_succ, i64_w, i32_w]
              rfl
            exact norm_ (by first | (simp only [putAll, Act.put, List.setIfInBounds_toArray, List.set_cons_zero, List.set_cons_succ]; done) | (simp only [putAll, Act.put, List.setIfInBounds_toArray, List.set_cons_zero, List.set_cons_succ]; rfl)) (hJ1_6 (v9, v14, l14) _ ⟨hHeld, HI.out, HR9.out, HR14.out, HT14.out⟩)
        · skip
          rintro ⟨v14, l14, v19, l19⟩ wr3 ⟨hS_, h0_, h1_, h2_, h3_, h4_⟩
          have n0_ : Aside0 (Below w.heap.size w wr3) := ⟨h0_⟩
          have n1_ : Aside0 (Kd.R kG 63 wr3 w.heap.size (fun _ => True) v14 l14) := ⟨h1_⟩
          have n2_ : Aside0 (At2 wr3 (nodes a) l14) := ⟨h2_⟩
          have n3_ : Aside0 (Kd.R kG 63 wr3 w.heap.size (fun _ => True) v19 l19) := ⟨h3_⟩
          have n4_ : Aside0 (At2 wr3 (nodes b) l19) := ⟨h4_⟩
          clear HI
          clear h0_ h1_ h2_ h3_ h4_
          have HI := n0_
          have HR14 := n1_
          have HT14 := n2_
          have HR19 := n3_
          have HT19 := n4_
          clear n0_ n1_ n2_ n3_ n4_
          have hHeld : wr3.cell? ⟨g, 0, none⟩ = some (.pointer (some ⟨ga, 0, none⟩)) ∧ wr3.cell? ⟨g, 1, none⟩ = some (.pointer (some ⟨gb, 0, none⟩)) := hS_
          refine norm_ (a' := ?_) ?_ ?_
          rotate_left
          · simp only [putAll, Act.put, List.setIfInBounds_toArray, List.set_cons_zero, List.set_cons_succ]
            rfl
          refine one_ (i := 1) (N := some 9) #[true, true, true, true, true, true, true, true, true, true, true, true, false, false, false] rfl rfl (by kernel_rfl) (by decide) (fun K hK => ?_)
          refine Kd.R_lit_step kG (w0 := _) _ 63 ?hw (N := 9) ?hd (xs := [some g]) (inner := [.pointer (some ⟨g, 0, none⟩)]) (ok := fun _ => True) (okp := fun _ => True) ?hr ?hp (fun _ hk => hk) trivial (Below.refl _ _) (Nat.le_refl _) (by simp) ?_; (case hd => rfl); (case hw => rfl); (case hr => first | (go_simp; done) | (go_simp; rfl)); (case hp => exact (Reps.one (show Kd.M kG _ _ _ (some g) [.pointer (some ⟨g, 0, none⟩)] from rfl) (Reps.none _ _)))
          intro v9 wr11 ho hb hg_ hat_; clear hg_ hat_
          have m9_ := Aside0.mk (Kd.R_lower ho (below_size HI.out)); clear ho
          have n0_ := Aside0.mk (below_step HI.out hb)
          have n1_ := Aside0.mk (Kd.R_below HR14.out hb)
          have n2_ := Aside0.mk (HT14.out.below hb)
          have n3_ := Aside0.mk (Kd.R_below HR19.out hb)
          have n4_ := Aside0.mk (HT19.out.below hb)
          clear HI HR14 HT14 HR19 HT19
          have HI := n0_
          have HR14 := n1_
          have HT14 := n2_
          have HR19 := n3_
          have HT19 := n4_
          clear n0_ n1_ n2_ n3_ n4_
          clear hb
          have HR9 := m9_; clear m9_
          refine hK.out _ _ ⟨(Below.cell HI.out HG.out).trans C0.out, (Below.cell HI.out HG.out).trans C1.out⟩ (fun hHeld => ?_)
          clear hK K
          refine norm_ (a' := ?_) ?_ ?_
          rotate_left
          · show Act.put _ (some 9) _ = _
            simp only [Act.put, List.setIfInBounds_toArray, List.set_cons_zero, List.set_cons_succ, i64_w, i32_w]
            rfl
          exact norm_ (by first | (simp only [putAll, Act.put, List.setIfInBounds_toArray, List.set_cons_zero, List.set_cons_succ]; done) | (simp only [putAll, Act.put, List.setIfInBounds_toArray, List.set_cons_zero, List.set_cons_succ]; rfl)) (hJ1_6_11 (v9, v14, l14, v19, l19) _ ⟨hHeld, HI.out, HR9.out, HR14.out, HT14.out, HR19.out, HT19.out⟩)
      · skip
        rintro ⟨v9, v14, l14⟩ wr2 ⟨hS_, h0_, h1_, h2_, h3_⟩
        have n0_ : Aside0 (Below w.heap.size w wr2) := ⟨h0_⟩
        have n1_ : Aside0 (Kd.R kG 63 wr2 w.heap.size (fun _ => True) v9 [some g]) := ⟨h1_⟩
        have n2_ : Aside0 (Kd.R kG 63 wr2 w.heap.size (fun _ => True) v14 l14) := ⟨h2_⟩
        have n3_ : Aside0 (At2 wr2 (nodes a) l14) := ⟨h3_⟩
        clear HI
        clear h0_ h1_ h2_ h3_
        have HI := n0_
        have HR9 := n1_
        have HR14 := n2_
        have HT14 := n3_
        clear n0_ n1_ n2_ n3_
        have hHeld : wr2.cell? ⟨g, 0, none⟩ = some (.pointer (some ⟨ga, 0, none⟩)) ∧ wr2.cell? ⟨g, 1, none⟩ = some (.pointer (some ⟨gb, 0, none⟩)) := hS_
        refine norm_ (a' := ?_) ?_ ?_
        rotate_left
        · simp only [putAll, Act.put, List.setIfInBounds_toArray, List.set_cons_zero, List.set_cons_succ]
          rfl
        refine one_ (i := 11) (N := some 19) #[true, true, true, true, true, true, true, true, true, true, true, true, false, false, false] rfl rfl (by kernel_rfl) (by decide) (fun K hK => ?_)
        refine goes_ Try.func60 (by kernel_rfl) rfl #[.pointer (some ⟨gb, 0, none⟩)] (by rfl) rfl rfl (by (try simp only [List.map_toArray, List.map_cons, List.map_nil]); first | done | rfl) ?_
        with_reducible refine (CB.out _ HI.out).mono ?_
        rintro e wr12 ⟨v19, l19, rfl, ho, ht, hb⟩
        refine ⟨_, rfl, ?_⟩
        have m19_ := Aside0.mk (Kd.R_lower ho (below_size HI.out)); have mt19_ := Aside0.mk ht; clear ho ht
        have n0_ := Aside0.mk (below_step HI.out hb)
        have n1_ := Aside0.mk (Kd.R_below HR9.out hb)
        have n2_ := Aside0.mk (Kd.R_below HR14.out hb)
        have n3_ := Aside0.mk (HT14.out.below hb)
        clear HI HR9 HR14 HT14
        have HI := n0_
        have HR9 := n1_
        have HR14 := n2_
        have HT14 := n3_
        clear n0_ n1_ n2_ n3_
        clear hb
        have HR19 := m19_; have HT19 := mt19_; clear m19_ mt19_
        refine hK.out _ _ ⟨(Below.cell HI.out HG.out).trans C0.out, (Below.cell HI.out HG.out).trans C1.out⟩ (fun hHeld => ?_)
        clear hK K
        refine norm_ (a' := ?_) ?_ ?_
        rotate_left
        · show Act.put _ (some 19) _ = _
          simp only [Act.put, List.setIfInBounds_toArray, List.set_cons_zero, List.set_cons_succ, i64_w, i32_w]
          rfl
        exact norm_ (by first | (simp only [putAll, Act.put, List.setIfInBounds_toArray, List.set_cons_zero, List.set_cons_succ]; done) | (simp only [putAll, Act.put, List.setIfInBounds_toArray, List.set_cons_zero, List.set_cons_succ]; rfl)) (hJ1_6_11 (v9, v14, l14, v19, l19) _ ⟨hHeld, HI.out, HR9.out, HR14.out, HT14.out, HR19.out, HT19.out⟩)
    rintro ⟨v9, v14, l14, v19, l19⟩ wr1 ⟨hS_, h0_, h1_, h2_, h3_, h4_, h5_⟩
    have n0_ : Aside0 (Below w.heap.size w wr1) := ⟨h0_⟩
    have n1_ : Aside0 (Kd.R kG 63 wr1 w.heap.size (fun _ => True) v9 [some g]) := ⟨h1_⟩
    have n2_ : Aside0 (Kd.R kG 63 wr1 w.heap.size (fun _ => True) v14 l14) := ⟨h2_⟩
    have n3_ : Aside0 (At2 wr1 (nodes a) l14) := ⟨h3_⟩
    have n4_ : Aside0 (Kd.R kG 63 wr1 w.heap.size (fun _ => True) v19 l19) := ⟨h4_⟩
    have n5_ : Aside0 (At2 wr1 (nodes b) l19) := ⟨h5_⟩
    clear HI
    clear h0_ h1_ h2_ h3_ h4_ h5_
    have HI := n0_
    have HR9 := n1_
    have HR14 := n2_
    have HT14 := n3_
    have HR19 := n4_
    have HT19 := n5_
    clear n0_ n1_ n2_ n3_ n4_ n5_
    have hHeld : wr1.cell? ⟨g, 0, none⟩ = some (.pointer (some ⟨ga, 0, none⟩)) ∧ wr1.cell? ⟨g, 1, none⟩ = some (.pointer (some ⟨gb, 0, none⟩)) := hS_
    refine norm_ (a' := ?_) ?_ ?_
    rotate_left
    · simp only [putAll, Act.put, List.setIfInBounds_toArray, List.set_cons_zero, List.set_cons_succ]
      rfl
    refine one_ (i := 12) (N := some 20) #[true, true, true, true, true, true, true, true, true, true, true, true, true, false, false] rfl rfl (by kernel_rfl) (by decide) (fun K hK => ?_)
    obtain ⟨A9, c9, e9⟩ := Kd.R_slice HR9.out; subst e9; obtain ⟨A14, c14, e14⟩ := Kd.R_slice HR14.out; subst e14; obtain ⟨A19, c19, e19⟩ := Kd.R_slice HR19.out; subst e19
    refine Kd.R_lit_step (Kd.slice 63 kG) (w0 := w) w.heap.size 56 ?hw (N := 20) ?hd (xs := [[some g], l14, l19]) (inner := [.slice A9 [some g].length c9, .slice A14 l14.length c14, .slice A19 l19.length c19]) (ok := fun _ => True) (okp := fun _ => True) ?hr ?hp (fun _ hk => hk) trivial HI.out (below_size HI.out) (by simp) ?_; (case hd => rfl); (case hw => rfl); (case hr => first | (go_simp; done) | (go_simp; rfl)); (case hp => exact reps3 ⟨_, rfl, HR9.out⟩ ⟨_, rfl, HR14.out⟩ ⟨_, rfl, HR19.out⟩)
    intro v20 wr13 ho hb0 hg_ hat_; have hb := below_none hg_; clear hg_ hat_ hb0
    have m20_ := Aside0.mk ho; clear ho
    have n0_ := Aside0.mk (below_step HI.out hb)
    have n1_ := Aside0.mk (Kd.R_below HR9.out hb)
    have n2_ := Aside0.mk (Kd.R_below HR14.out hb)
    have n3_ := Aside0.mk (HT14.out.below hb)
    have n4_ := Aside0.mk (Kd.R_below HR19.out hb)
    have n5_ := Aside0.mk (HT19.out.below hb)
    clear HI HR9 HR14 HT14 HR19 HT19
    have HI := n0_
    have HR9 := n1_
    have HR14 := n2_
    have HT14 := n3_
    have HR19 := n4_
    have HT19 := n5_
    clear n0_ n1_ n2_ n3_ n4_ n5_
    clear hb
    have HR20 := m20_; clear m20_
    refine hK.out _ _ ⟨(Below.cell HI.out HG.out).trans C0.out, (Below.cell HI.out HG.out).trans C1.out⟩ (fun hHeld => ?_)
    clear hK K
    refine norm_ (a' := ?_) ?_ ?_
    rotate_left
    · show Act.put _ (some 20) _ = _
      simp only [Act.put, List.setIfInBounds_toArray, List.set_cons_zero, List.set_cons_succ, i64_w, i32_w]
      rfl
    refine one_ (i := 13) (N := some 21) #[true, true, true, true, true, true, true, true, true, true, true, true, true, true, false] rfl rfl (by kernel_rfl) (by decide) (fun K hK => ?_)
    refine goes_ Try.func64 (by kernel_rfl) rfl #[v20] (by rfl) rfl rfl (by (try simp only [List.map_toArray, List.map_cons, List.map_nil]); first | done | rfl) ?_
    with_reducible refine (concat_calls _ w.heap.size v20 [[some g], l14, l19] HR20.out (HLEN.out _ _ (HT14.out.length) (HT19.out.length))).mono ?_
    rintro e wr14 ⟨v21, rfl, ho, hb⟩
    refine ⟨_, rfl, ?_⟩
    have m21_ := Aside0.mk (Kd.R_lower ho (below_size HI.out)); clear ho
    have n0_ := Aside0.mk (below_step HI.out hb)
    have n1_ := Aside0.mk (Kd.R_below HR9.out hb)
    have n2_ := Aside0.mk (Kd.R_below HR14.out hb)
    have n3_ := Aside0.mk (HT14.out.below hb)
    have n4_ := Aside0.mk (Kd.R_below HR19.out hb)
    have n5_ := Aside0.mk (HT19.out.below hb)
    have n6_ := Aside0.mk (Kd.R_below HR20.out hb)
    clear HI HR9 HR14 HT14 HR19 HT19 HR20
    have HI := n0_
    have HR9 := n1_
    have HR14 := n2_
    have HT14 := n3_
    have HR19 := n4_
    have HT19 := n5_
    have HR20 := n6_
    clear n0_ n1_ n2_ n3_ n4_ n5_ n6_
    clear hb
    have HR21 := m21_; clear m21_
    refine hK.out _ _ ⟨(Below.cell HI.out HG.out).trans C0.out, (Below.cell HI.out HG.out).trans C1.out⟩ (fun hHeld => ?_)
    clear hK K
    refine norm_ (a' := ?_) ?_ ?_
    rotate_left
    · show Act.put _ (some 21) _ = _
      simp only [Act.put, List.setIfInBounds_toArray, List.set_cons_zero, List.set_cons_succ, i64_w, i32_w]
      rfl
    refine pure_ (i := 14) (N := some 2) (v := ?_) (a' := ?_) #[true, true, true, true, true, true, true, true, true, true, true, true, true, true, true] rfl rfl (by kernel_rfl) (fun _ _ _ h => h) (Or.inl ⟨by rfl, ?_⟩) ?_ ?_
    rotate_left
    · intro w'
      go_simp
      with_reducible rfl
    rotate_left
    · simp only [Act.put, List.setIfInBounds_toArray, List.set_cons_zero, List.set_cons_succ, i64_w, i32_w]
      rfl
    refine done_ (by kernel_rfl) ?_
    go_wp2_with fail
    go_ret
    refine ⟨_, [[some g], l14, l19].flatten, rfl, HR21.out, ?_, HI.out⟩
    show At2 _ (.node n d a b :: (nodes a ++ nodes b)) (some g :: (l14 ++ (l19 ++ [])))
    rw [List.append_nil]
    exact ⟨HFT.out.below HI.out, HT14.out.append HT19.out⟩
theorem FAt.over {w w1 : World} {row : Option Nat} (hg : w.grownBy w1 row) (hty : ∀ k, row = some k → ∀ cells, w.heap[k]? ≠ some (.cells cells 66 (0, 0))) : ∀ {t : FT} {g : Nat}, FAt w t g → FAt w1 t g
  | .spark, g, h => blk_grown h hg (fun he => hty g he.symm _ h)
  | .node _ _ _ _, g, ⟨ga, gb, h1, h2, h3⟩ => ⟨ga, gb, blk_grown h1 hg (fun he => hty g he.symm _ h1), FAt.over hg hty h2, FAt.over hg hty h3⟩
theorem At2.over {w w1 : World} {row : Option Nat} (hg : w.grownBy w1 row) (hty : ∀ k, row = some k → ∀ cells, w.heap[k]? ≠ some (.cells cells 66 (0, 0))) : ∀ {ts : List FT} {gs : List (Option Nat)}, At2 w ts gs → At2 w1 ts gs
  | [], [], _ => trivial
  | _ :: _, some _ :: _, ⟨h1, h2⟩ => ⟨h1.over hg hty, At2.over hg hty h2⟩
  | [], _ :: _, h => h.elim
  | _ :: _, [], h => h.elim
  | _ :: _, none :: _, h => h.elim
theorem R_no66 {α : Type} {d : Kd α} {e : Nat} {w : World} {base : Nat} {ok : Nat → Prop} {v : Value} {xs : List α} (h : d.R e w base ok v xs) (he : e ≠ 66) : ∀ k, v.ownBlock = some k → ∀ cells, w.heap[k]? ≠ some (.cells cells 66 (0, 0)) := by
  intro k hk cells hc
  obtain ⟨inner, ho⟩ := Kd.R_own h
  obtain ⟨cells', hc'⟩ := own_typed ho k hk
  rw [hc] at hc'
  injection hc' with hc'
  injection hc' with _ hc'
  exact he hc'.symm
theorem R_iso {α β : Type} {d : Kd α} {f : β → α} (g : α → β) (hfg : ∀ x, f (g x) = x) {e : Nat} {w : World} {base : Nat} {ok : Nat → Prop} {v : Value} {xs : List α} (h : d.R e w base ok v xs) : (Kd.iso d f).R e w base ok v (xs.map g) := by
  obtain ⟨h0, inner, ho, hr⟩ := h
  refine ⟨h0, inner, by rw [List.length_map]; exact ho, by rw [List.length_map]; exact hr.1, fun j p hj => ?_⟩
  rw [List.getElem?_map] at hj
  obtain ⟨x, hx, rfl⟩ := Option.map_eq_some_iff.1 hj
  show d.M w base _ (f (g x)) _
  rw [hfg]
  exact hr.2 j x hx
/-- Pairs of numbers. -/
def kP : Kd (Int × Int) := Kd.pair (Kd.int .i64) (Kd.int .i64)
theorem kP_M (w : World) (b : Nat) (ok : Nat → Prop) (x : Int × Int) : kP.M w b ok x [.int .i64 x.1, .int .i64 x.2] := ⟨[.int .i64 x.1], [.int .i64 x.2], rfl, rfl, rfl⟩
theorem kP_info : (Try.prog.info? 27).map (fun i => (i.zero, i.size, i.bytes)) = some (some (.agg #[.int .i64 0, .int .i64 0]), kP.sz, 16) := by kernel_rfl
def lightsF (k : Nat) (s : ByteArray) : Option (List (Int × Int) × Bool) := (parseF k s).bind fun z => some (match z with | some a => ((nodes a).map FT.time, true) | none => ([], false))
theorem fpost_at {f : Nat} {args : Array Value} {w : World} {a : FT} (h : Calls Try.prog f args w (FPost w (some a))) :
    Calls Try.prog f args w fun e w' => ∃ g, e = .returned (.pointer (some ⟨g, 0, none⟩)) ∧ Aside0 (FAt w' a g) ∧ Aside0 (a.ropes ≤ 8) ∧ Aside0 (Below w.heap.size w w') :=
  (fpost_some h).mono fun e w' ⟨g, h1, h2, h3⟩ => ⟨g, h1, ⟨h2.out.1⟩, ⟨h2.out.2⟩, h3⟩
set_option maxHeartbeats 8000000 in
set_option maxRecDepth 100000 in
theorem lightsF_calls (k : Nat) (s : ByteArray) (r1 : List (Int × Int)) (r2 : Bool) (w : World) (h : lightsF k s = some (r1, r2)) :
    Calls Try.prog 34 #[.string s] w fun e w' => ∃ v, e = .returned (.tuple #[v, .bool r2]) ∧ Kd.R kP 27 w' w.heap.size (fun _ => True) v r1 ∧ Below w.heap.size w w' := by
  obtain ⟨z, hz, h⟩ := Option.bind_eq_some_iff.mp h
  cases z with
  | none =>
    obtain ⟨rfl, rfl⟩ := Prod.mk.inj (Option.some.inj h)
    have c := Aside0.mk (fun W => fpost_none (parse_calls k s W none hz))
    clear hz h
    go_enter Try.func34, Try.ntmps34
    go_wp2_with (go_at_call 52; (with_reducible refine (c.out _).mono ?_); rintro e w1 ⟨rfl, hb1⟩)
    go_ret2
    exact ⟨_, rfl, Kd.R_nil _ _ _ _ _, hb1.out⟩
  | some a =>
    obtain ⟨rfl, rfl⟩ := Prod.mk.inj (Option.some.inj h)
    have c := Aside0.mk (fun W => fpost_at (parse_calls k s W (some a) hz))
    clear hz h
    go_enter Try.func34, Try.ntmps34
    go_wp2_with (first
      | (go_at_call 52; (with_reducible refine (c.out _).mono ?_); rintro e w1 ⟨g1, rfl, hf, hr, hb⟩)
      | ((with_reducible refine gate_dst (N := 12) rfl ?_); refine Kd.R_lit kP w.heap.size 27 ?hg (N := 12) ?hd (xs := ([] : List (Int × Int))) (inner := []) (ok := fun _ => True) (okp := fun _ => True) ?hr ?hp (fun _ hk => hk) trivial hb.out (below_size hb.out) (by simp) ?_; (case hd => rfl); (case hg => rfl); (case hr => first | (go_simp; done) | (go_simp; rfl)); (case hp => exact (Reps.none _ _)); intro v12 w2 ho hb2 hg_ hnew_; have HL := Aside0.mk ho; have HB := Aside0.mk hb2; have HF := Aside0.mk (hf.out.below (below_none hg_)); clear hg_ hnew_ ho hb2 hf hb)
      | (go_at_call 60; (with_reducible refine (parts_calls a _ g1 HF.out hr.out).mono ?_); rintro e w3 ⟨v14, gs, rfl, hR, hA, hb3⟩; obtain ⟨A14, c14, e14⟩ := Kd.R_slice hR; subst e14; have HR := Aside0.mk (Kd.R_lower hR (below_size HB.out)); have HA := Aside0.mk hA; have HL3 := Aside0.mk (Kd.R_below HL.out hb3); have HB3 := Aside0.mk (below_step HB.out hb3); clear hR hA hb3 HL HB HF))
    have HN := Aside0.mk HA.out.length
    have hm8 : gs.length ≤ 8 := by have := HN.out; rw [nodes_length] at this; have := hr.out; omega
    go_loopg [5, 16] (gs.length + 1) (fun kq v5 v16 w' => ∃ i : Nat, v16 = .int .i64 (i : Int) ∧ Aside0 (kq + i = gs.length + 1 ∧ 1 ≤ kq) ∧ Aside0 (Kd.R kP 27 w' w.heap.size (fun _ => True) v5 (((nodes a).map FT.time).take i)) ∧ Aside0 (Kd.R kG 63 w' w.heap.size (fun _ => True) (.slice A14 gs.length c14) gs) ∧ Aside0 (At2 w' (nodes a) gs) ∧ Aside0 (Below w.heap.size w w'))
    case atStart => exact ⟨0, rfl, ⟨by omega⟩, HL3, HR, HA, HB3⟩
    case round =>
      clear HL3 HR HA HB3
      obtain ⟨i, rfl, HK, HL, HR, HA, HB⟩ := hrel
      by_cases hi : i < gs.length
      · have hd : decide (i < gs.length) = true := decide_eq_true hi
        obtain ⟨e, he⟩ : ∃ e, gk = e + 1 := ⟨gk - 1, by have := HK.out; omega⟩
        subst he
        obtain ⟨t, ht⟩ : ∃ t, (nodes a)[i]? = some t := ⟨(nodes a)[i]'(by have := HN.out; omega), List.getElem?_eq_getElem _⟩
        obtain ⟨g, hgs, hF⟩ := HA.out.get i t ht
        obtain ⟨ad, cap, c, e8, hM, hc⟩ := R_get HR.out i (some g) hgs
        injection e8 with e8a e8b e8c
        subst e8a e8c
        obtain rfl : c = [.pointer (some ⟨g, 0, none⟩)] := hM
        have cell19 : wr.cell? (ad.add i) = some (.pointer (some ⟨g, 0, none⟩)) := by have := hc 0 _ rfl; simpa [kG, Kd.scalar] using this
        obtain ⟨va, vb, hcell⟩ := hF.cells
        have c3 : wr.cell? ⟨g, 3, none⟩ = some (.int .i64 t.time.1) := (blk_cell hcell 3).trans rfl
        have c4 : wr.cell? ⟨g, 4, none⟩ = some (.int .i64 t.time.2) := (blk_cell hcell 4).trans rfl
        have HI := Aside0.mk hi
        have HTK : Aside0 (((nodes a).map FT.time).take (i + 1) = ((nodes a).map FT.time).take i ++ [t.time]) := ⟨by rw [List.take_add_one, List.getElem?_map, ht]; rfl⟩
        have HNO := Aside0.mk (R_no66 HL.out (by decide))
        have HLE : Aside0 ((((nodes a).map FT.time).take i).length ≤ 8) := ⟨by rw [List.length_take]; omega⟩
        clear hc hgs ht hF hcell
        generalize t.time = tt at c3 c4 HTK
        go_wp2_with ((with_reducible refine gate_builtin (b := .append) (xs := #[.tmp 20, .tmp 25]) rfl ?_); at_builtin; refine Kd.R_append kP (w0 := w) w.heap.size rfl (.tmp 20) (.tmp 25) 37 27 (.agg #[.int .i64 0, .int .i64 0]) 16 rfl Try.underlying37 kP_info rfl (by decide) (by decide) u5 (((nodes a).map FT.time).take i) tt [.int .i64 tt.1, .int .i64 tt.2] (fun _ => True) (fun q => some q ≠ u5.ownBlock) rfl rfl ?aP (fun _ hk => ⟨trivial, hk⟩) (fun _ _ => trivial) ?aO ?aB ?aS ?aL ?_; (case aP => exact kP_M _ _ _ _); (case aB => exact HB.out); (case aO => exact HL.out); (case aS => exact below_size HB.out); (case aL => have := HLE.out; omega); intro v1 w10 ho hb hg hat; have HL2 := Aside0.mk ho; have HB2 := Aside0.mk hb; have HR2 := Aside0.mk (Kd.R_over HR.out HL.out (by intro q hq; simp [kG, Kd.scalar] at hq; omega) hg); have HA2 := Aside0.mk (HA.out.over hg HNO.out); clear ho hb hg hat)
        go_roundg e
        case measure => omega
        case rel => exact ⟨i + 1, (by go_num), ⟨by have := HK.out; have := HI.out; omega⟩, (by rw [HTK.out]; exact HL2), HR2, HA2, HB2⟩
      · have hd : decide (i < gs.length) = false := decide_eq_false hi
        have HL3 := HL.out
        rw [List.take_of_length_le (by rw [List.length_map]; have := HN.out; omega)] at HL3
        have HL4 := Aside0.mk HL3
        clear HL3 hi
        go_wp2
        go_ret2
        exact ⟨_, rfl, HL4.out, HB.out⟩
theorem lightsF_mono (s : ByteArray) (k : Nat) : LeO (lightsF k s) (lightsF (k + 1) s) := LeO.bind (parseF_mono k s) (fun _ => LeO.refl _)
end Go.Proofs.Ythloakjlpblakaa.PB
