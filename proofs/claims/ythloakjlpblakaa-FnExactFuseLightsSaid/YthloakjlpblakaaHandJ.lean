/- How many kinds of fuses are in a fuse: the walk. Conditions: those each lemma names. -/
import Derived.Test.YthloakjlpblakaaHandI
import Derived.Maps.OwnSet
import Derived.StringKeys
set_option linter.unusedVariables false
set_option linter.unusedSimpArgs false
namespace Go.Proofs.Ythloakjlpblakaa.PB
open Go.RowKit Go.Proofs.YthloakjlpblakaaW.PrintWords Go.Proofs.YthloakjlpblakaaW.PrintLast Go.Proofs.YthloakjlpblakaaW.PrintMore Go.Proofs.YthloakjlpblakaaX

/-- A fuse's text as a map's key. -/
def keyT (t : FT) : Lit := .string t.text.data.toList
/-- How many kinds of fuses are in a list. -/
def kindsN (l : List FT) : Nat := ((l.map keyT).foldl Maps.addKey []).length
def kindsF (k : Nat) (s : ByteArray) : Option (Int × Bool) := (parseF k s).bind fun z => some (match z with | some a => (((kindsN (nodes a) : Nat) : Int), true) | none => (0, false))
theorem kindsF_mono (s : ByteArray) (k : Nat) : LeO (kindsF k s) (kindsF (k + 1) s) := LeO.bind (parseF_mono k s) (fun _ => LeO.refl _)
/-- The map of the kinds seen. -/
def setT (l : List FT) : DataW Unit := Maps.setOf (.lit (.bool true)) (l.map keyT)
theorem setT_size (l : List FT) : Maps.size (setT l) = kindsN l := Maps.size_setOf _ _ (fun x hx => by
  obtain ⟨t, _, rfl⟩ := List.mem_map.1 hx
  trivial)
theorem setT_snoc (l : List FT) (t : FT) : setT (l ++ [t]) = (setT l).put (keyT t) (.lit (.bool true)) := by
  unfold setT
  rw [List.map_append]
  exact Maps.setOf_snoc _ _ _
theorem R_nomap {α : Type} {d : Kd α} {e : Nat} {w w1 : World} {base : Nat} {ok : Nat → Prop} {v : Value} {xs : List α} {M : Nat} {es : Array MapEntry} {c : Nat} (h : d.R e w base ok v xs) (hm : w.heap[M]? = some (.map es c)) (hg : w.grownBy w1 (some M)) : d.R e w1 base ok v xs :=
  Kd.R_mono (Kd.R_move (Kd.R_bound h) (fun k hk => hg.block k hk.2.2.1 (fun he => by
    obtain ⟨_, _, _, q, hq, cells, hc⟩ := hk
    injection he with he
    subst he
    rw [hm] at hc
    cases hc))) (fun _ hk => hk.1)
theorem nodes_ropes : ∀ (a t : FT), t ∈ nodes a → t.ropes ≤ a.ropes
  | .spark, _, h => by cases h
  | .node n d a b, t, h => by
    rcases List.mem_cons.1 h with rfl | h
    · exact Nat.le_refl _
    · simp only [FT.ropes]
      rcases List.mem_append.1 h with h | h
      · have := nodes_ropes a t h; omega
      · have := nodes_ropes b t h; omega
abbrev mapT (w : World) (M n : Nat) (l : List FT) : Prop := w.ownsMap Try.prog 9 (plainElem Try.prog 4) M n (setT l)
set_option maxHeartbeats 8000000 in
set_option maxRecDepth 100000 in
theorem kindsF_calls (k : Nat) (s : ByteArray) (r1 : Int) (r2 : Bool) (w : World) (h : kindsF k s = some (r1, r2)) :
    Calls Try.prog 32 #[.string s] w fun e w' => e = .returned (.tuple #[.int .i64 r1, .bool r2]) ∧ Below w.heap.size w w' := by
  obtain ⟨z, hz, h⟩ := Option.bind_eq_some_iff.mp h
  cases z with
  | none =>
    obtain ⟨rfl, rfl⟩ := Prod.mk.inj (Option.some.inj h)
    have c := Aside0.mk (fun W => fpost_none (parse_calls k s W none hz))
    clear hz h
    go_enter Try.func32, Try.ntmps32
    go_wp2_with (go_at_call 52; (with_reducible refine (c.out _).mono ?_); rintro e w1 ⟨rfl, hb1⟩)
    go_ret2
    exact ⟨rfl, hb1.out⟩
  | some a =>
    obtain ⟨rfl, rfl⟩ := Prod.mk.inj (Option.some.inj h)
    have c := Aside0.mk (fun W => fpost_at (parse_calls k s W (some a) hz))
    clear hz h
    go_enter Try.func32, Try.ntmps32
    go_upto_region 5 with (go_at_call 52; (with_reducible refine (c.out _).mono ?_); rintro e w1 ⟨g1, rfl, hf, hr, hb⟩; have hmk := run_makeMap (P := Try.prog) 74 w1)
    clear hmk
    have HM : Aside0 (mapT (w1.alloc (.map #[] 0)) w1.heap.size 0 []) := ⟨World.ownsMap_made w1 Try.prog 9 (plainElem Try.prog 4)⟩
    have HF := Aside0.mk (hf.out.below (below_alloc (Below.refl w1.heap.size w1) (.map #[] 0)))
    have HB := Aside0.mk (below_alloc hb.out (.map #[] 0))
    have HGE : Aside0 (w.heap.size ≤ w1.heap.size) := ⟨below_size hb.out⟩
    clear hf hb
    generalize w1.alloc (.map #[] 0) = w2 at HM HF HB ⊢
    generalize w1.heap.size = M at HM HGE ⊢
    go_wp2_with (go_at_call 60; (with_reducible refine (parts_calls a _ g1 HF.out hr.out).mono ?_); rintro e w3 ⟨v14, gs, rfl, hR, hA, hb3⟩; obtain ⟨A14, c14, e14⟩ := Kd.R_slice hR; subst e14; have HR := Aside0.mk (Kd.R_lower hR (below_size HB.out)); have HA := Aside0.mk hA; have HM3 : Aside0 (mapT w3 M 0 []) := ⟨by obtain ⟨es, cl, hb_, r⟩ := HM.out; exact ⟨es, cl, (hb3.block M (Array.getElem?_eq_some_iff.1 hb_).1).trans hb_, r⟩⟩; have HB3 := Aside0.mk (below_step HB.out hb3); clear hR hA hb3 HB HM HF)
    have HN := Aside0.mk HA.out.length
    have hm8 : gs.length ≤ 8 := by have := HN.out; rw [nodes_length] at this; have := hr.out; omega
    go_loopg [16] (gs.length + 1) (fun kq v16 w' => ∃ i : Nat, v16 = .int .i64 (i : Int) ∧ Aside0 (kq + i = gs.length + 1 ∧ 1 ≤ kq) ∧ Aside0 (mapT w' M i ((nodes a).take i)) ∧ Aside0 (Kd.R kG 63 w' w.heap.size (fun _ => True) (.slice A14 gs.length c14) gs) ∧ Aside0 (At2 w' (nodes a) gs) ∧ Aside0 (Below w.heap.size w w'))
    case atStart => exact ⟨0, rfl, ⟨by omega⟩, HM3, HR, HA, HB3⟩
    case round =>
      clear HM3 HR HA HB3
      obtain ⟨i, rfl, HK, HM, HR, HA, HB⟩ := hrel
      by_cases hi : i < gs.length
      · have hd : decide (i < gs.length) = true := decide_eq_true hi
        obtain ⟨e, he⟩ : ∃ e, gk = e + 1 := ⟨gk - 1, by have := HK.out; omega⟩
        subst he
        obtain ⟨t, ht⟩ : ∃ t, (nodes a)[i]? = some t := ⟨(nodes a)[i]'(by have := HN.out; omega), List.getElem?_eq_getElem _⟩
        obtain ⟨g, hgs, hF⟩ := HA.out.get i t ht
        obtain ⟨ad, cap, c, e8, hM, hc⟩ := R_get HR.out i (some g) hgs
        injection e8 with e8a e8b e8c
        subst e8a e8c
        obtain rfl : c = [.pointer (some ⟨g, 0, none⟩)] := hM
        have cell19 : wr.cell? (ad.add i) = some (.pointer (some ⟨g, 0, none⟩)) := by have := hc 0 _ rfl; simpa [kG, Kd.scalar] using this
        obtain ⟨va, vb, hcell⟩ := hF.cells
        have c2 : wr.cell? ⟨g, 2, none⟩ = some (.string t.text) := (blk_cell hcell 2).trans rfl
        have HI := Aside0.mk hi
        have HTK : Aside0 ((nodes a).take (i + 1) = (nodes a).take i ++ [t]) := ⟨by rw [List.take_add_one, ht]; rfl⟩
        have HKEY : Aside0 (keyOf Try.prog 9 (.string t.text) = some (keyT t)) := ⟨WideMaps.keyOf_string_mk Try.underlying9 (by
          have h1 := t.text_size
          have h2 : t.ropes ≤ a.ropes := nodes_ropes a t (List.mem_of_getElem? ht)
          have := hr.out
          unfold maxLen
          omega)⟩
        have HMB : Aside0 (∃ es cl, wr.heap[M]? = some (.map es cl)) := ⟨by obtain ⟨es, cl, hb_, _⟩ := HM.out; exact ⟨es, cl, hb_⟩⟩
        clear hc hgs ht hF hcell
        go_wp2_with (at_mapUpdate; refine wpList_mapUpdate_own (H := Unit) _ rfl _ _ _ 74 rfl 9 4 (Maps.string_keyed Try.underlying9) Try.underlying74 (plainElem Try.prog 4) M i (setT ((nodes a).take i)) rfl HM.out (by unfold maxLen; omega) _ _ (keyT t) rfl rfl HKEY.out (.lit (.bool true)) [] (plainElem_bool Try.underlying4 true) ?_; intro w10 hown hg; have HM2 : Aside0 (mapT w10 M (i + 1) ((nodes a).take i ++ [t])) := ⟨by unfold mapT; rw [setT_snoc]; exact hown⟩; have HB2 := Aside0.mk (HB.out.grown hg (below_size HB.out) (fun q hq => by cases hq; exact HGE.out)); have HR2 : Aside0 (Kd.R kG 63 w10 w.heap.size (fun _ => True) (.slice (some ad) gs.length c14) gs) := ⟨by obtain ⟨es, cl, hb_⟩ := HMB.out; exact R_nomap HR.out hb_ hg⟩; have HA2 : Aside0 (At2 w10 (nodes a) gs) := ⟨by obtain ⟨es, cl, hb_⟩ := HMB.out; exact HA.out.over hg (fun q hq cells hc => by cases hq; rw [hb_] at hc; cases hc)⟩; clear hown hg)
        go_roundg e
        case measure => omega
        case rel => exact ⟨i + 1, (by go_num), ⟨by have := HK.out; have := HI.out; omega⟩, (by rw [HTK.out]; exact HM2), HR2, HA2, HB2⟩
      · have hd : decide (i < gs.length) = false := decide_eq_false hi
        have HM3 := HM.out
        rw [List.take_of_length_le (by have := HN.out; omega)] at HM3
        have HM4 := Aside0.mk HM3
        clear HM3 hi
        go_wp2_with (at_len; refine wpList_len_own (H := Unit) _ rfl _ 74 rfl 9 4 Try.underlying74 (plainElem Try.prog 4) M i (setT (nodes a)) rfl HM4.out ?_)
        go_ret2
        exact ⟨by first | rfl | (rw [setT_size]; rfl), HB.out⟩
end Go.Proofs.Ythloakjlpblakaa.PB
