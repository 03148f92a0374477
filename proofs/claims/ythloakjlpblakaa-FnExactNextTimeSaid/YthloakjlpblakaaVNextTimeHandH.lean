/- Rows of pointers to fuses: joined; a fuse's parts. Conditions: those each lemma names. -/
import Derived.Test.YthloakjlpblakaaVNextTimeHandE
import Derived.Outline
set_option linter.unusedVariables false
set_option linter.unusedSimpArgs false
namespace Go.Proofs.Ythloakjlpblakaa.PB
open Go.RowKit Go.Proofs.YthloakjlpblakaaW.PrintWords Go.Proofs.YthloakjlpblakaaW.PrintLast Go.Proofs.YthloakjlpblakaaW.PrintMore Go.Proofs.YthloakjlpblakaaX

theorem fptr1 (x : Option Nat) : (fptr x).oneCell' = true := by cases x <;> rfl
def kG : Kd (Option Nat) := Kd.scalar fptr fptr1
/-- The fuses that lie at blocks. -/
def At2 (w : World) : List FT → List (Option Nat) → Prop
  | [], [] => True
  | t :: ts, some g :: gs => FAt w t g ∧ At2 w ts gs
  | _, _ => False
theorem At2.below {w w' : World} (hb : Below w.heap.size w w') : ∀ {ts : List FT} {gs : List (Option Nat)}, At2 w ts gs → At2 w' ts gs
  | [], [], _ => trivial
  | _ :: _, some _ :: _, ⟨h1, h2⟩ => ⟨h1.below hb, h2.below hb⟩
  | [], _ :: _, h => h.elim
  | _ :: _, [], h => h.elim
  | _ :: _, none :: _, h => h.elim
theorem At2.append {w : World} : ∀ {ts : List FT} {gs : List (Option Nat)} {us : List FT} {hs : List (Option Nat)}, At2 w ts gs → At2 w us hs → At2 w (ts ++ us) (gs ++ hs)
  | [], [], _, _, _, h => h
  | _ :: _, some _ :: _, _, _, ⟨h1, h2⟩, h => ⟨h1, h2.append h⟩
  | [], _ :: _, _, _, h, _ => h.elim
  | _ :: _, [], _, _, h, _ => h.elim
  | _ :: _, none :: _, _, _, h, _ => h.elim
theorem At2.length {w : World} : ∀ {ts : List FT} {gs : List (Option Nat)}, At2 w ts gs → gs.length = ts.length
  | [], [], _ => rfl
  | _ :: _, some _ :: _, ⟨_, h2⟩ => by simp [h2.length]
  | [], _ :: _, h => h.elim
  | _ :: _, [], h => h.elim
  | _ :: _, none :: _, h => h.elim
theorem At2.get {w : World} : ∀ {ts : List FT} {gs : List (Option Nat)}, At2 w ts gs → ∀ (i : Nat) (t : FT), ts[i]? = some t → ∃ g, gs[i]? = some (some g) ∧ FAt w t g
  | t :: _, some g :: _, ⟨h1, _⟩, 0, _, e => by simp at e; subst e; exact ⟨g, rfl, h1⟩
  | _ :: _, some _ :: _, ⟨_, h2⟩, i + 1, t, e => by simpa using h2.get i t (by simpa using e)
  | [], [], _, _, _, e => by simp at e
  | [], _ :: _, h, _, _, _ => h.elim
  | _ :: _, [], h, _, _, _ => h.elim
  | _ :: _, none :: _, h, _, _, _ => h.elim
theorem kG_info : (Try.prog.info? 63).map (fun i => (i.zero, i.size, i.bytes)) = some (some (.pointer none), kG.sz, 8) := by kernel_rfl
set_option maxHeartbeats 8000000 in
set_option maxRecDepth 100000 in
theorem grow_calls (w : World) (n : Nat) (hn : n ≤ 1000000) : Calls Try.prog 81 #[.slice none 0 0, .int .i64 (n : Int)] w fun e w' => ∃ u, e = .returned u ∧ Kd.R kG 63 w' w.heap.size (fun _ => True) u [] ∧ Below w.heap.size w w' := by
  have d1 : decide ((n : Int) < 0) = false := decide_eq_false (by omega)
  have w1 : IntKind.i64.wrap ((n : Int) - 0) = (n : Int) := by rw [Int.sub_zero]; exact IntWalk.i64_in _ (by omega)
  by_cases h0 : n = 0
  · subst h0
    go_enter Try.func81, Try.ntmps81
    go_wp2
    go_ret
    exact ⟨_, rfl, Kd.R_nil _ _ _ _ _, by repeat (first | exact Below.refl _ _ | apply below_drew1 | apply pw_below_drewN)⟩
  · have d2 : decide ((0 : Int) < (n : Int)) = true := decide_eq_true (by omega)
    have d3 : decide ((n : Int) > 0) = true := decide_eq_true (by omega)
    go_enter Try.func81, Try.ntmps81
    go_wp2_with ((with_reducible refine gate_builtin (b := .append) (xs := #[.tmp 20, .tmp 21]) rfl ?_); at_builtin; refine Kd.R_append_zeros kG (w0 := w) w.heap.size rfl (.tmp 20) (.tmp 21) 56 3 63 (.pointer none) 8 rfl Try.underlying56 Try.underlying3 kG_info rfl (by decide) (by omega) (.slice none 0 0) [] none (n : Int) (fun _ => True) rfl rfl rfl (fun _ _ => trivial) (Kd.R_nil _ _ _ _ _) (by omega) ?aB ?aS ?aL ?_; (case aB => exact Below.refl _ _); (case aS => exact Nat.le_refl _); (case aL => (simp only [List.length_nil, Int.toNat_natCast]; omega)); intro v1 w10 ho hb hg hat; obtain ⟨g9, c9, rfl, hg1, hg2, _, _⟩ := Kd.R_form ho (by simp; omega); have HL := Aside0.mk ho; have HB := Aside0.mk hb; clear ho hb hg hat)
    go_ret
    exact ⟨_, rfl, Kd.R_take (m := 0) HL.out (Nat.zero_le _), HB.out⟩
theorem below_none {w w1 : World} (h : w.grownBy w1 none) : Below w.heap.size w w1 := (Below.refl w.heap.size w).grown h (Nat.le_refl _) (fun k hk => by cases hk)
def tot (xss : List (List (Option Nat))) : Nat := (xss.map List.length).sum
theorem tot_take_le (xss : List (List (Option Nat))) (i : Nat) : tot (xss.take i) ≤ tot xss := by
  have h := congrArg tot (List.take_append_drop i xss)
  unfold tot at h ⊢
  rw [List.map_append, List.sum_append] at h
  omega
theorem tot_step {xss : List (List (Option Nat))} {i : Nat} {l : List (Option Nat)} (h : xss[i]? = some l) : tot (xss.take (i + 1)) = tot (xss.take i) + l.length := by
  obtain ⟨hi, rfl⟩ := List.getElem?_eq_some_iff.1 h
  unfold tot
  rw [List.take_add_one, List.map_append, List.sum_append, List.getElem?_eq_getElem hi]
  simp
theorem flat_step {xss : List (List (Option Nat))} {i : Nat} {l : List (Option Nat)} (h : xss[i]? = some l) : (xss.take (i + 1)).flatten = (xss.take i).flatten ++ l := by
  obtain ⟨hi, rfl⟩ := List.getElem?_eq_some_iff.1 h
  rw [List.take_add_one, List.getElem?_eq_getElem hi, List.flatten_append]
  simp
theorem flat_len (xss : List (List (Option Nat))) : xss.flatten.length = tot xss := by unfold tot; rw [List.length_flatten]
set_option maxHeartbeats 8000000 in
set_option maxRecDepth 100000 in
/-- Rows joined: a row of the call's own. -/
theorem concat_calls (w : World) (b : Nat) (v : Value) (xss : List (List (Option Nat))) (h : Kd.R (Kd.slice 63 kG) 56 w b (fun _ => True) v xss) (hl : tot xss ≤ 1000000) :
    Calls Try.prog 64 #[v] w fun e w' => ∃ u, e = .returned u ∧ Kd.R kG 63 w' w.heap.size (fun _ => True) u xss.flatten ∧ Below w.heap.size w w' := by
  obtain ⟨A, cc, rfl⟩ := Kd.R_slice h
  have hmx : xss.length ≤ 9223372036854775807 := Kd.C_max (Kd.R_reads' h).2.2
  have H := Aside0.mk h
  have HT := Aside0.mk hl
  clear h hl
  go_enter Try.func64, Try.ntmps64
  go_wp2
  go_loopg [3, 11] (xss.length + 1) (fun kq v3 v11 w' => ∃ i : Nat, v11 = .int .i64 (i : Int) ∧ v3 = .int .i64 (tot (xss.take i) : Nat) ∧ Aside0 (kq + i = xss.length + 1 ∧ 1 ≤ kq) ∧ Aside0 (Below w.heap.size w w'))
  case atStart => exact ⟨0, rfl, rfl, ⟨by omega⟩, ⟨Below.refl _ _⟩⟩
  case round =>
    obtain ⟨i, rfl, rfl, HK, HB⟩ := hrel
    by_cases hi : i < xss.length
    · have hd : decide (i < xss.length) = true := decide_eq_true hi
      obtain ⟨e, he⟩ : ∃ e, gk = e + 1 := ⟨gk - 1, by have := HK.out; omega⟩
      subst he
      obtain ⟨x, hx⟩ : ∃ x, xss[i]? = some x := ⟨xss[i], List.getElem?_eq_getElem hi⟩
      obtain ⟨ad, cap, c, e8, hM, hc⟩ := R_get (Kd.R_below H.out HB.out) i x hx
      injection e8 with e8a e8b e8c
      subst e8a e8c
      obtain ⟨v14, rfl, hR⟩ := hM
      obtain ⟨A14, c14, rfl⟩ := Kd.R_slice hR
      have cell14 : wr.cell? (ad.add i) = some (.slice A14 x.length c14) := by have := hc 0 _ rfl; simpa [Kd.slice] using this
      have hs := tot_step hx
      have ht := tot_take_le xss (i + 1)
      have hT := HT.out
      have w1 : IntKind.i64.wrap (((tot (xss.take i) : Nat) : Int) + (x.length : Int)) = ((tot (xss.take (i + 1)) : Nat) : Int) := by rw [hs]; push_cast; exact IntWalk.i64_in _ (by omega)
      have d2 : decide (((tot (xss.take (i + 1)) : Nat) : Int) < 0) = false := decide_eq_false (by omega)
      have HI := Aside0.mk hi
      clear hc hR hx hs ht hT
      generalize ht1 : tot (xss.take (i + 1)) = t1 at w1 d2 ⊢
      have HT1 := Aside0.mk ht1
      clear ht1
      go_wp2
      go_roundg e
      case measure => omega
      case rel => exact ⟨i + 1, (by go_num), (by rw [HT1.out]), ⟨by have := HK.out; have := HI.out; omega⟩, HB⟩
    · have hd : decide (i < xss.length) = false := decide_eq_false hi
      have e1 : xss.take i = xss := List.take_of_length_le (by omega)
      rw [e1]
      have HT2 := Aside0.mk hi
      clear e1 hi HK
      go_wp2_with (go_at_call 81; (with_reducible refine (grow_calls _ (tot xss) HT.out).mono ?_); rintro e w9 ⟨u9, rfl, hR9, hb9⟩; have HR9 := Aside0.mk (Kd.R_lower hR9 (below_size HB.out)); have HB9 := Aside0.mk (below_step HB.out hb9); clear hR9 hb9)
      have HV := Aside0.mk (Kd.R_below H.out HB9.out)
      have HVN : Aside0 (∀ k, (Value.slice A xss.length cc).ownBlock = some k → k < w.heap.size) := ⟨Kd.R_lt H.out⟩
      have HR10 := Aside0.mk (Kd.R_new' HR9.out HVN.out)
      clear HR9 HB
      go_loopg [6, 27] (xss.length + 1) (fun kq v6 v27 w' => ∃ i : Nat, v27 = .int .i64 (i : Int) ∧ Aside0 (kq + i = xss.length + 1 ∧ 1 ≤ kq) ∧ Aside0 (Kd.R kG 63 w' w.heap.size (fun k => True ∧ some k ≠ (Value.slice A xss.length cc).ownBlock) v6 (xss.take i).flatten) ∧ Aside0 (Kd.R (Kd.slice 63 kG) 56 w' b (fun k => True ∧ k < w.heap.size) (.slice A xss.length cc) xss) ∧ Aside0 (Below w.heap.size w w'))
      case atStart => exact ⟨0, rfl, ⟨by omega⟩, HR10, ⟨Kd.R_mono (Kd.R_below (Kd.R_bound H.out) HB9.out) (fun k hk => ⟨hk.1, hk.2.2.1⟩)⟩, HB9⟩
      case round =>
        clear HV HR10 HB9
        obtain ⟨i, rfl, HK, HR, HV, HB⟩ := hrel
        by_cases hi : i < xss.length
        · have hd : decide (i < xss.length) = true := decide_eq_true hi
          obtain ⟨e, he⟩ : ∃ e, gk = e + 1 := ⟨gk - 1, by have := HK.out; omega⟩
          subst he
          obtain ⟨x, hx⟩ : ∃ x, xss[i]? = some x := ⟨xss[i], List.getElem?_eq_getElem hi⟩
          obtain ⟨ad, cap, c, e8, hM, hc⟩ := R_get HV.out i x hx
          injection e8 with e8a e8b e8c
          subst e8a e8c
          obtain ⟨v30, rfl, hR⟩ := hM
          obtain ⟨A30, c30, rfl⟩ := Kd.R_slice hR
          have cell30 : wr.cell? (ad.add i) = some (.slice A30 x.length c30) := by have := hc 0 _ rfl; simpa [Kd.slice] using this
          have HX := Aside0.mk (Kd.R_reads' hR).2.2
          have HF := Aside0.mk (flat_step hx)
          have HL : Aside0 ((xss.take i).flatten.length + x.length ≤ 1000000) := ⟨by rw [flat_len, ← tot_step hx]; exact Nat.le_trans (tot_take_le _ _) HT.out⟩
          have HI := Aside0.mk hi
          have HFR : Aside0 (∀ k, (Value.slice (some ad) xss.length cc).ownBlock = some k → k < wr.heap.size) := ⟨Kd.R_lt HV.out⟩
          have HGR : Aside0 (∀ k, u6.ownBlock = some k → w.heap.size ≤ k) := ⟨Kd.R_base HR.out⟩
          clear hc hR hx
          go_wp2_with ((with_reducible refine gate_builtin (b := .append) (xs := #[.tmp 31, .tmp 32]) rfl ?_); at_builtin; refine Kd.R_append_row fptr none (h1 := fptr1) (w0 := w) w.heap.size rfl (.tmp 31) (.tmp 32) 56 63 (.pointer none) 8 rfl Try.underlying56 kG_info rfl (by decide) u6 (xss.take i).flatten x A30 x.length c30 (fun k => True ∧ some k ≠ (Value.slice (some ad) xss.length cc).ownBlock) rfl rfl (fun k hk => ⟨trivial, fun he => absurd (HFR.out k he.symm) (Nat.not_lt.mpr hk)⟩) ?aO ?aX ?aB ?aS ?aL ?_; (case aO => exact HR.out); (case aX => exact HX.out); (case aB => exact HB.out); (case aS => exact below_size HB.out); (case aL => have := HL.out; omega); intro v1 w10 ho hb hg hat; have HR2 := Aside0.mk ho; have HB2 := Aside0.mk hb; have HV2 := Aside0.mk (Kd.R_step HV.out (fun k hk hlt => hg.block k hlt (fun he => absurd hk.2 (Nat.not_lt.mpr (HGR.out k he.symm))))); clear ho hb hg hat)
          go_roundg e
          case measure => omega
          case rel => exact ⟨i + 1, (by go_num), ⟨by have := HK.out; have := HI.out; omega⟩, (by rw [HF.out]; exact HR2), HV2, HB2⟩
        · have hd : decide (i < xss.length) = false := decide_eq_false hi
          have HR3 := HR.out
          rw [List.take_of_length_le (by omega)] at HR3
          have HR4 := Aside0.mk HR3
          clear HR3 HR hi
          go_wp2
          go_ret
          exact ⟨_, rfl, Kd.R_mono HR4.out (fun _ hk => hk.1), HB.out⟩
end Go.Proofs.Ythloakjlpblakaa.PB
