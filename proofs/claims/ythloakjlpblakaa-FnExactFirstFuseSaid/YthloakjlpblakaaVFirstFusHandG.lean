/- The first fuse of a time. Conditions: those each lemma names. -/
import Derived.Test.YthloakjlpblakaaVFirstFusHandE
import Derived.Outline
import Derived.Test.YthloakjlpblakaaVFirstFusXArr

set_option linter.unusedVariables false
set_option linter.unusedSimpArgs false
namespace Go.Proofs.Ythloakjlpblakaa.PB
open Go.RowKit Go.Proofs.YthloakjlpblakaaW.PrintWords Go.Proofs.YthloakjlpblakaaW.PrintLast Go.Proofs.YthloakjlpblakaaW.PrintMore Go.Proofs.YthloakjlpblakaaX
theorem eqB27 (d : Nat) (w : World) (x0 y0 : Int) (x1 y1 : Int) :
    (Op.equalIn (d + 2) 27 (.agg #[.int .i64 x0, .int .i64 x1]) (.agg #[.int .i64 y0, .int .i64 y1])).run Try.prog w = .ok (x0 == y0 && (x1 == y1)) w := by
  refine eqA_arr (c := 1) Try.underlying27 (by kernel_rfl) (by kernel_rfl) ?_
  show (Op.eqItems _ _ _ _ _ [0, 1]).run _ _ = _
  refine eqi_cons (by go_simp; rfl) (by go_simp; rfl) (by go_simp) ?_
  exact eqi_last (by go_simp; rfl) (by go_simp; rfl) (by go_simp)
attribute [local go_sem high] eqB27
def better (t1 t2 : Int) (f : FT) : Option FT → Bool
  | none => (f.time.1 == t1 && (f.time.2 == t2))
  | some b => (f.time.1 == t1 && (f.time.2 == t2)) && Op.bytesLess f.text.toList b.text.toList
def bestI (t1 t2 : Int) : List FT → Option FT → Option FT
  | [], b => b
  | f :: fs, b => bestI t1 t2 fs (if better t1 t2 f b = true then some f else b)
def firstL (t1 t2 : Int) : List (List FT) → Option FT
  | [] => none
  | l :: ls => match bestI t1 t2 l none with
    | some f => some f
    | none => firstL t1 t2 ls
def firstF (k : Nat) (t1 t2 : Int) : Option (Option FT) := (impl_isFraction.f k t1 t2).bind fun b => if b = true then (allF 64 8).map (firstL t1 t2) else some none
theorem all8_calls (w : World) (r : List (List FT)) (h : allF 64 8 = some r) : Calls Try.prog 50 #[.int .i64 8] w fun e w' => ∃ v, e = .returned v ∧ outR w w' (fun _ => True) v r ∧ Below w.heap.size w w' := allF_calls 64 8 (by decide) w r h
set_option maxHeartbeats 8000000 in
set_option maxRecDepth 100000 in
theorem firstF_calls (k : Nat) (t1 t2 : Int) (z : Option FT) (w : World) (h : firstF k t1 t2 = some z) :
    Calls Try.prog 58 #[.agg #[.int .i64 t1, .int .i64 t2]] w (FPost w z) := by
  have hu27 := Try.underlying27
  obtain ⟨b, hb, h⟩ := Option.bind_eq_some_iff.mp h
  have HF := Aside0.mk hb
  clear hb
  cases b with
  | false =>
    obtain rfl : none = z := by simpa using h
    clear h
    go_enter Try.func58, Try.ntmps58
    go_wp2_with (first
      | ((with_reducible refine gate_dst (N := 1) rfl ?_); refine box_event ?hg (N := 1) ?hd (cs := #[.int .i64 t1, .int .i64 t2]) (t := 27) ?hr ?_; (case hd => rfl); (case hg => rfl); (case hr => first | (go_simp; done) | (go_simp; rfl)); intro gb hg w8 hbox hb; have HB := Aside0.mk hb; have c0 : w8.cell? ⟨gb, 0, none⟩ = some (.int .i64 t1) := (blk_cell hbox 0).trans rfl; have c1 : w8.cell? ⟨gb, 1, none⟩ = some (.int .i64 t2) := (blk_cell hbox 1).trans rfl; clear hb hbox hg)
      | (go_at_call 63; (with_reducible refine (impl_isFraction.calls k t1 t2 false _ HF.out).mono ?_); rintro e w9 ⟨rfl, hb⟩; have HB9 := Aside0.mk (below_step HB.out hb); clear hb c0 c1))
    go_ret
    exact ⟨none, rfl, trivial, HB9.out⟩
  | true =>
    obtain ⟨o, ho, hz⟩ := Option.map_eq_some_iff.mp (show (allF 64 8).map (firstL t1 t2) = some z from h)
    have HO8 := Aside0.mk ho
    have HZ := Aside0.mk hz
    clear h ho hz
    go_enter Try.func58, Try.ntmps58
    go_wp2_with (first
      | ((with_reducible refine gate_dst (N := 1) rfl ?_); refine box_event ?hg (N := 1) ?hd (cs := #[.int .i64 t1, .int .i64 t2]) (t := 27) ?hr ?_; (case hd => rfl); (case hg => rfl); (case hr => first | (go_simp; done) | (go_simp; rfl)); intro gb hg w8 hbox hb; have HB := Aside0.mk hb; have BK := Aside0.mk hbox; have c0 : w8.cell? ⟨gb, 0, none⟩ = some (.int .i64 t1) := (blk_cell hbox 0).trans rfl; have c1 : w8.cell? ⟨gb, 1, none⟩ = some (.int .i64 t2) := (blk_cell hbox 1).trans rfl; clear hb hbox hg)
      | (go_at_call 63; (with_reducible refine (impl_isFraction.calls k t1 t2 true _ HF.out).mono ?_); rintro e w9 ⟨rfl, hb⟩; have HB9 := Aside0.mk (below_step HB.out hb); have BK9 := Aside0.mk (blk_below BK.out hb); clear hb c0 c1 HB BK)
      | (go_at_call 50; (with_reducible refine (all8_calls _ o HO8.out).mono ?_); rintro e w2 ⟨v, rfl, hv, hb⟩; obtain ⟨bs, HO⟩ : ∃ bs, Aside0 (Kd.R (Kd.slice 63 kF) 56 w2 bs (fun _ => True) v o) := ⟨_, ⟨hv⟩⟩; obtain ⟨A11, c11, e11⟩ := Kd.R_slice HO.out; subst e11; have HB2 := Aside0.mk (below_step HB9.out hb); have BK2 := Aside0.mk (blk_below BK9.out hb); clear hb hv HB9 BK9))
    clear HO8 HF
    go_loopg [13] (o.length + 1) (fun kq v13 w' => ∃ (n : Nat), v13 = .int .i64 (n : Int) ∧ Aside0 (firstL t1 t2 (o.drop n) = z) ∧ Aside0 (kq + n = o.length + 1 ∧ 1 ≤ kq) ∧ Aside0 (Kd.R (Kd.slice 63 kF) 56 w' bs (fun _ => True) (.slice A11 o.length c11) o) ∧ Aside0 (w'.heap[gb]? = some (.cells #[.int .i64 t1, .int .i64 t2] 27 (0, 0))) ∧ Aside0 (Below w.heap.size w w'))
    case atStart => exact ⟨0, rfl, HZ, ⟨by omega⟩, HO, BK2, HB2⟩
    case round =>
      clear HZ HO BK2 HB2
      obtain ⟨n, rfl, HZ, HK, HO, BK, HB⟩ := hrel
      by_cases hn : n < o.length
      · have hd1 : decide (n < o.length) = true := decide_eq_true hn
        obtain ⟨e, he⟩ : ∃ e, gk = e + 1 := ⟨gk - 1, by have := HK.out; omega⟩
        subst he
        obtain ⟨xs, hxs⟩ : ∃ xs, o[n]? = some xs := ⟨o[n], List.getElem?_eq_getElem hn⟩
        have hdr : o.drop n = xs :: o.drop (n + 1) := by
          rw [List.drop_eq_getElem_cons hn]
          rw [List.getElem?_eq_getElem hn] at hxs
          rw [Option.some.inj hxs]
        have h1 := HZ.out
        rw [hdr] at h1
        simp only [firstL] at h1
        have HZ1 := Aside0.mk h1
        obtain ⟨ad, cap, c, e3, hM, hc⟩ := R_get HO.out n xs hxs
        injection e3 with e3a e3b e3c
        subst e3a e3c
        obtain ⟨v16, rfl, hR16⟩ := hM
        obtain ⟨A16, c16, rfl⟩ := Kd.R_slice hR16
        have HX := Aside0.mk (Kd.R_mono hR16 (fun _ hk => trivial))
        have cell16 : wr.cell? (ad.add n) = some (.slice A16 xs.length c16) := by have := hc 0 _ rfl; simpa [Kd.slice] using this
        have HNN := Aside0.mk hn
        have hno : o.length ≤ 9223372036854775807 := Kd.C_max (Kd.R_reads' HO.out).2.2
        have HNO := Aside0.mk hno
        clear h1 hxs hR16 hc HZ hdr hno
        go_wp2_with fail
        clear cell16 hn
        have HK0 := HK
        clear HK
        go_loopg [5, 19] (xs.length + 1) (fun kq v5 v19 w' => ∃ (j : Nat) (ob : Option Nat) (bo : Option FT), v5 = fptr ob ∧ v19 = .int .i64 (j : Int) ∧ Aside0 ((match bestI t1 t2 (xs.drop j) bo with | some f => some f | none => firstL t1 t2 (o.drop (n + 1))) = z) ∧ Aside0 (kq + j = xs.length + 1 ∧ 1 ≤ kq) ∧ Aside0 (FRel w' ob bo) ∧ Aside0 (Kd.R kF 63 w' bs (fun _ => True) (.slice A16 xs.length c16) xs) ∧ Aside0 (Kd.R (Kd.slice 63 kF) 56 w' bs (fun _ => True) (.slice (some ad) o.length c11) o) ∧ Aside0 (w'.heap[gb]? = some (.cells #[.int .i64 t1, .int .i64 t2] 27 (0, 0))) ∧ Aside0 (Below w.heap.size w w'))
        case atStart => exact ⟨0, none, none, rfl, rfl, HZ1, ⟨by omega⟩, ⟨trivial⟩, HX, HO, BK, HB⟩
        case round =>
          clear HZ1 HX HO BK HB
          obtain ⟨j, ob, bo, rfl, rfl, HZ, HK, HF, HX, HO, BK, HB⟩ := hrel
          by_cases hj : j < xs.length
          · have hd2 : decide (j < xs.length) = true := decide_eq_true hj
            obtain ⟨e2, he2⟩ : ∃ e2, gk = e2 + 1 := ⟨gk - 1, by have := HK.out; omega⟩
            subst he2
            obtain ⟨f, hxf⟩ : ∃ f, xs[j]? = some f := ⟨xs[j], List.getElem?_eq_getElem hj⟩
            have hdr : xs.drop j = f :: xs.drop (j + 1) := by
              rw [List.drop_eq_getElem_cons hj]
              rw [List.getElem?_eq_getElem hj] at hxf
              rw [Option.some.inj hxf]
            have h1 := HZ.out
            rw [hdr] at h1
            simp only [bestI] at h1
            obtain ⟨ad10, cap10, c10, e10, hM, hc⟩ := R_get HX.out j f hxf
            injection e10 with e10a e10b e10c
            subst e10a e10c
            obtain ⟨ga, rfl, hFa, hra⟩ := hM
            have hFA := hFa.at_
            obtain ⟨va, vb, hcl⟩ := hFA.cells
            have d2 : wr.cell? ⟨ga, 2, none⟩ = some (.string f.text) := (blk_cell hcl 2).trans rfl
            have d3 : wr.cell? ⟨ga, 3, none⟩ = some (.int .i64 f.time.1) := (blk_cell hcl 3).trans rfl
            have d4 : wr.cell? ⟨ga, 4, none⟩ = some (.int .i64 f.time.2) := (blk_cell hcl 4).trans rfl
            have c0 : wr.cell? ⟨gb, 0, none⟩ = some (.int .i64 t1) := (blk_cell BK.out 0).trans rfl
            have c1 : wr.cell? ⟨gb, 1, none⟩ = some (.int .i64 t2) := (blk_cell BK.out 1).trans rfl
            have cell22 : wr.cell? (ad10.add j) = some (.pointer (some ⟨ga, 0, none⟩)) := by have := hc 0 _ rfl; simpa [kF] using this
            have hmx : xs.length ≤ 9223372036854775807 := Kd.C_max (Kd.R_reads' HX.out).2.2
            have HFA := Aside0.mk (show FRel wr (some ga) (some f) from ⟨hFA, hra⟩)
            have HJ := Aside0.mk hj
            have H1 := Aside0.mk h1
            clear hcl hc hdr hxf hFa hFA hra h1 HZ
            by_cases hE : (f.time.1 == t1 && (f.time.2 == t2)) = true
            · have hF2 := HF.out
              cases bo with
              | none =>
                cases ob with
                | some _ => exact hF2.elim
                | none =>
                  rw [show fptr none = Value.pointer none from rfl]
                  have HZ2 := H1.out
                  rw [show better t1 t2 f none = true from hE, if_pos rfl] at HZ2
                  have HZ2 := Aside0.mk HZ2
                  clear hF2 H1
                  go_wp2_with fail
                  go_quiet (fail)
                  go_wp2
                  go_roundg e2
                  case measure => omega
                  case rel => exact ⟨j + 1, some ga, some f, rfl, (by go_num), HZ2, ⟨by have := HK.out; have := HJ.out; omega⟩, ⟨HFA.out.below (pw_below_drewN (Below.refl _ _) _)⟩, ⟨Kd.R_drewN HX.out _⟩, ⟨Kd.R_drewN HO.out _⟩, ⟨blk_drewN BK.out _⟩, ⟨pw_below_drewN HB.out _⟩⟩
              | some b =>
                cases ob with
                | none => exact hF2.elim
                | some gx =>
                  rw [show fptr (some gx) = Value.pointer (some ⟨gx, 0, none⟩) from rfl]
                  obtain ⟨vc, vd, hcb⟩ := hF2.1.cells
                  have b2 : wr.cell? ⟨gx, 2, none⟩ = some (.string b.text) := (blk_cell hcb 2).trans rfl
                  clear hF2 hcb
                  by_cases hL : Op.bytesLess f.text.toList b.text.toList = true
                  · have HZ2 := H1.out
                    rw [show better t1 t2 f (some b) = true from by simp only [better, hE, hL]; rfl, if_pos rfl] at HZ2
                    have HZ2 := Aside0.mk HZ2
                    clear H1
                    go_wp2_with fail
                    go_quiet (fail)
                    go_wp2
                    go_roundg e2
                    case measure => omega
                    case rel => exact ⟨j + 1, some ga, some f, rfl, (by go_num), HZ2, ⟨by have := HK.out; have := HJ.out; omega⟩, ⟨HFA.out.below (pw_below_drewN (Below.refl _ _) _)⟩, ⟨Kd.R_drewN HX.out _⟩, ⟨Kd.R_drewN HO.out _⟩, ⟨blk_drewN BK.out _⟩, ⟨pw_below_drewN HB.out _⟩⟩
                  · have hL := Bool.eq_false_iff.mpr hL
                    have HZ2 := H1.out
                    rw [show better t1 t2 f (some b) = false from by simp only [better, hE, hL]; rfl, if_neg (by decide)] at HZ2
                    have HZ2 := Aside0.mk HZ2
                    clear H1
                    go_wp2_with fail
                    go_quiet (fail)
                    go_wp2
                    go_roundg e2
                    case measure => omega
                    case rel => exact ⟨j + 1, some gx, some b, rfl, (by go_num), HZ2, ⟨by have := HK.out; have := HJ.out; omega⟩, ⟨HF.out.below (pw_below_drewN (Below.refl _ _) _)⟩, ⟨Kd.R_drewN HX.out _⟩, ⟨Kd.R_drewN HO.out _⟩, ⟨blk_drewN BK.out _⟩, ⟨pw_below_drewN HB.out _⟩⟩
            · have hE := Bool.eq_false_iff.mpr hE
              have HZ2 := H1.out
              rw [show better t1 t2 f bo = false from by cases bo <;> simp [better, hE], if_neg (by decide)] at HZ2
              have HZ2 := Aside0.mk HZ2
              clear H1
              go_wp2_with fail
              go_quiet (fail)
              go_wp2
              go_roundg e2
              case measure => omega
              case rel => exact ⟨j + 1, ob, bo, rfl, (by go_num), HZ2, ⟨by have := HK.out; have := HJ.out; omega⟩, ⟨HF.out.below (pw_below_drewN (Below.refl _ _) _)⟩, ⟨Kd.R_drewN HX.out _⟩, ⟨Kd.R_drewN HO.out _⟩, ⟨blk_drewN BK.out _⟩, ⟨pw_below_drewN HB.out _⟩⟩
          · have hd2 : decide (j < xs.length) = false := decide_eq_false hj
            have h1 := HZ.out
            rw [List.drop_eq_nil_of_le (by omega)] at h1
            simp only [bestI] at h1
            have hF2 := HF.out
            cases bo with
            | none =>
              cases ob with
              | some _ => exact hF2.elim
              | none =>
                have HZ2 := Aside0.mk h1
                have hno := HNO.out
                have hnn := HNN.out
                rw [show fptr none = Value.pointer none from rfl]
                clear h1 hF2 hj
                go_wp2
                go_roundg e
                case measure => omega
                case rel => exact ⟨n + 1, (by go_num), HZ2, ⟨by have := HK0.out; have := HNN.out; omega⟩, HO, BK, HB⟩
            | some b =>
              cases ob with
              | none => exact hF2.elim
              | some gx =>
                obtain rfl : some b = z := h1
                rw [show fptr (some gx) = Value.pointer (some ⟨gx, 0, none⟩) from rfl]
                clear hF2 hj
                go_wp2
                go_ret
                exact ⟨some gx, rfl, HF.out, HB.out⟩
      · have hd1 : decide (n < o.length) = false := decide_eq_false hn
        have h1 := HZ.out
        rw [List.drop_eq_nil_of_le (by omega)] at h1
        obtain rfl : none = z := h1
        clear hn
        go_wp2
        go_ret
        exact ⟨none, rfl, trivial, HB.out⟩

def firstTF (k : Nat) (t1 t2 : Int) : Option (ByteArray × Bool) := (firstF k t1 t2).map fun z => match z with | none => (⟨#[]⟩, false) | some f => (f.text, true)
set_option maxHeartbeats 8000000 in
set_option maxRecDepth 100000 in
theorem firstTF_calls (k : Nat) (t1 t2 : Int) (r1 : ByteArray) (r2 : Bool) (w : World) (h : firstTF k t1 t2 = some (r1, r2)) :
    Calls Try.prog 30 #[.agg #[.int .i64 t1, .int .i64 t2]] w fun e w' => e = .returned (.tuple #[.string r1, .bool r2]) ∧ Below w.heap.size w w' := by
  have hu27 := Try.underlying27
  obtain ⟨z, hz, hq⟩ := Option.map_eq_some_iff.mp h
  have HZ := Aside0.mk hz
  clear h hz
  cases z with
  | none =>
    obtain ⟨rfl, rfl⟩ := Prod.mk.inj hq
    clear hq
    go_enter Try.func30, Try.ntmps30
    go_wp2_with (first
      | ((with_reducible refine gate_dst (N := 1) rfl ?_); refine box_event ?hg (N := 1) ?hd (cs := #[.int .i64 t1, .int .i64 t2]) (t := 27) ?hr ?_; (case hd => rfl); (case hg => rfl); (case hr => first | (go_simp; done) | (go_simp; rfl)); intro gb hg w8 hbox hb; have HB := Aside0.mk hb; have c0 : w8.cell? ⟨gb, 0, none⟩ = some (.int .i64 t1) := (blk_cell hbox 0).trans rfl; have c1 : w8.cell? ⟨gb, 1, none⟩ = some (.int .i64 t2) := (blk_cell hbox 1).trans rfl; clear hb hbox hg)
      | (go_at_call 58; (with_reducible refine (fpost_none (firstF_calls k t1 t2 none _ HZ.out)).mono ?_); rintro e w9 ⟨rfl, hb⟩; have HB9 := Aside0.mk (below_step HB.out hb.out); clear hb c0 c1))
    go_ret2
    exact ⟨rfl, HB9.out⟩
  | some f =>
    obtain ⟨rfl, rfl⟩ := Prod.mk.inj hq
    clear hq
    go_enter Try.func30, Try.ntmps30
    go_wp2_with (first
      | ((with_reducible refine gate_dst (N := 1) rfl ?_); refine box_event ?hg (N := 1) ?hd (cs := #[.int .i64 t1, .int .i64 t2]) (t := 27) ?hr ?_; (case hd => rfl); (case hg => rfl); (case hr => first | (go_simp; done) | (go_simp; rfl)); intro gb hg w8 hbox hb; have HB := Aside0.mk hb; have c0 : w8.cell? ⟨gb, 0, none⟩ = some (.int .i64 t1) := (blk_cell hbox 0).trans rfl; have c1 : w8.cell? ⟨gb, 1, none⟩ = some (.int .i64 t2) := (blk_cell hbox 1).trans rfl; clear hb hbox hg)
      | (go_at_call 58; (with_reducible refine (fpost_some (firstF_calls k t1 t2 (some f) _ HZ.out)).mono ?_); rintro e w9 ⟨g, rfl, hf, hb⟩; have HB9 := Aside0.mk (below_step HB.out hb.out); obtain ⟨va, vb, hcl⟩ := hf.out.1.cells; have d2 : w9.cell? ⟨g, 2, none⟩ = some (.string f.text) := (blk_cell hcl 2).trans rfl; have d5 : w9.cell? ⟨g, 5, none⟩ = some (.int .i64 (f.ropes : Nat)) := (blk_cell hcl 5).trans rfl; clear hb hcl hf c0 c1))
    go_ret2
    exact ⟨rfl, HB9.out⟩
end Go.Proofs.Ythloakjlpblakaa.PB
