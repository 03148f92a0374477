/- impl.GraftFuse: strings.ReplaceAll by the shelf's contract, and the function. Conditions: those each lemma names. -/
import Derived.Test.YthloakjlpblakaaDoorHandD
import Derived.Shelf.Strings.Replace
set_option linter.unusedVariables false
set_option linter.unusedSimpArgs false
namespace Go.Proofs.YthloakjlpblakaaDoor.PB
open Go.RowKit Go.Shelf Go.Proofs.YthloakjlpblakaaDoorW.PrintWords Go.Proofs.YthloakjlpblakaaDoorW.PrintLast Go.Proofs.YthloakjlpblakaaDoorW.PrintMore Go.Proofs.YthloakjlpblakaaDoorX
def layR_ren : Go.Shelf.Ren := ⟨fun | 155 => 8 | 154 => 11 | 138 => 14 | 165 => 15 | 143 => 16 | 166 => 17 | 197 => 18 | 169 => 19 | 195 => 25 | 218 => 26 | 240 => 27 | 241 => 28 | 219 => 29 | 260 => 30 | 276 => 37 | 277 => 38 | 217 => 39 | 225 => 40 | 224 => 41 | 267 => 42 | 266 => 45 | 314 => 46 | n => n, fun | 9 => 9 | 3 => 3 | 4 => 4 | 72 => 41 | 0 => 0 | 76 => 45 | 105 => 47 | 21 => 21 | 5 => 5 | 70 => 38 | 20 => 20 | 37 => 39 | 75 => 44 | 127 => 56 | 164 => 61 | 46 => 65 | 119 => 66 | 139 => 69 | 138 => 68 | 146 => 72 | 51 => 71 | 80 => 49 | n => n, fun | 1 => 0 | 3 => 1 | 4 => 2 | n => n⟩
theorem layR : Go.Proofs.Lays.n155 Tryd.prog layR_ren := {
  mixed := by kernel_rfl
  f138 := Tryd.func14.trans (congrArg some (by kernel_rfl))
  f143 := Tryd.func16.trans (congrArg some (by kernel_rfl))
  f154 := Tryd.func11.trans (congrArg some (by kernel_rfl))
  f155 := Tryd.func8.trans (congrArg some (by kernel_rfl))
  f165 := Tryd.func15.trans (congrArg some (by kernel_rfl))
  f166 := Tryd.func17.trans (congrArg some (by kernel_rfl))
  f169 := Tryd.func19.trans (congrArg some (by kernel_rfl))
  f195 := Tryd.func25.trans (congrArg some (by kernel_rfl))
  f197 := Tryd.func18.trans (congrArg some (by kernel_rfl))
  f217 := Tryd.func39.trans (congrArg some (by kernel_rfl))
  f218 := Tryd.func26.trans (congrArg some (by kernel_rfl))
  f219 := Tryd.func29.trans (congrArg some (by kernel_rfl))
  f224 := Tryd.func41.trans (congrArg some (by kernel_rfl))
  f225 := Tryd.func40.trans (congrArg some (by kernel_rfl))
  f240 := Tryd.func27.trans (congrArg some (by kernel_rfl))
  f241 := Tryd.func28.trans (congrArg some (by kernel_rfl))
  f260 := Tryd.func30.trans (congrArg some (by kernel_rfl))
  f266 := Tryd.func45.trans (congrArg some (by kernel_rfl))
  f267 := Tryd.func42.trans (congrArg some (by kernel_rfl))
  f276 := Tryd.func37.trans (congrArg some (by kernel_rfl))
  f277 := Tryd.func38.trans (congrArg some (by kernel_rfl))
  f314 := Tryd.func46.trans (congrArg some (by kernel_rfl))
  t0 := Tryd.underlying0
  a0 := Tryd.isAgg0
  z0 := Tryd.sizeOf0
  v0 := Tryd.zeroValue0
  t3 := Tryd.underlying3
  a3 := Tryd.isAgg3
  z3 := Tryd.sizeOf3
  v3 := Tryd.zeroValue3
  t4 := Tryd.underlying4
  a4 := Tryd.isAgg4
  z4 := Tryd.sizeOf4
  v4 := Tryd.zeroValue4
  t5 := Tryd.underlying5
  a5 := Tryd.isAgg5
  z5 := Tryd.sizeOf5
  v5 := Tryd.zeroValue5
  t9 := Tryd.underlying9
  a9 := Tryd.isAgg9
  z9 := Tryd.sizeOf9
  v9 := Tryd.zeroValue9
  t20 := Tryd.underlying20
  a20 := Tryd.isAgg20
  z20 := Tryd.sizeOf20
  v20 := Tryd.zeroValue20
  t21 := Tryd.underlying21
  a21 := Tryd.isAgg21
  z21 := Tryd.sizeOf21
  v21 := Tryd.zeroValue21
  t37 := Tryd.underlying39
  a37 := Tryd.isAgg39
  z37 := Tryd.sizeOf39
  v37 := Tryd.zeroValue39
  t46 := Tryd.underlying65
  a46 := Tryd.isAgg65
  z46 := Tryd.sizeOf65
  v46 := Tryd.zeroValue65
  t51 := Tryd.underlying71
  a51 := Tryd.isAgg71
  z51 := Tryd.sizeOf71
  v51 := Tryd.zeroValue71
  t70 := Tryd.underlying38
  a70 := Tryd.isAgg38
  z70 := Tryd.sizeOf38
  v70 := Tryd.zeroValue38
  t72 := Tryd.underlying41
  a72 := Tryd.isAgg41
  z72 := Tryd.sizeOf41
  v72 := Tryd.zeroValue41
  t75 := Tryd.underlying44
  a75 := Tryd.isAgg44
  z75 := Tryd.sizeOf44
  v75 := Tryd.zeroValue44
  t76 := Tryd.underlying45
  a76 := Tryd.isAgg45
  z76 := Tryd.sizeOf45
  v76 := Tryd.zeroValue45
  t105 := Tryd.underlying47
  a105 := Tryd.isAgg47
  z105 := Tryd.sizeOf47
  v105 := Tryd.zeroValue47
  t119 := Tryd.underlying66
  a119 := Tryd.isAgg66
  z119 := Tryd.sizeOf66
  t127 := Tryd.underlying56
  a127 := Tryd.isAgg56
  z127 := Tryd.sizeOf56
  v127 := Tryd.zeroValue56
  t138 := Tryd.underlying68
  a138 := Tryd.isAgg68
  z138 := Tryd.sizeOf68
  v138 := Tryd.zeroValue68
  t139 := Tryd.underlying69
  a139 := Tryd.isAgg69
  z139 := Tryd.sizeOf69
  v139 := Tryd.zeroValue69
  t146 := Tryd.underlying72
  a146 := Tryd.isAgg72
  z146 := Tryd.sizeOf72
  v146 := Tryd.zeroValue72
  t164 := Tryd.underlying61
  a164 := Tryd.isAgg61
  z164 := Tryd.sizeOf61
  v164 := Tryd.zeroValue61
  g1 := by kernel_rfl
  g3 := by kernel_rfl
  g4 := by kernel_rfl }
theorem extR : Builder.Extra Tryd.prog layR_ren := {
  sizeBuilder := by kernel_rfl
  liesBuilder := by kernel_rfl
  t5 := Tryd.underlying5
  a5 := Tryd.isAgg5
  z5 := Tryd.sizeOf5
  v5 := Tryd.zeroValue5
  infoByte := by kernel_rfl
  cellsByte := by kernel_rfl
  sizeByte := by kernel_rfl
  neB5 := by decide }
theorem replaceAll_calls (s old new : ByteArray) (m : Int) (w : World) (hs : s.size < 4294967281) (hm : w.cell? ⟨0, 0, none⟩ = some (.int .i64 m)) (h1 : 1 ≤ old.size) (hlen : s.size + Go.Lib.countB s old * new.size ≤ 140737488355328) :
    Calls Tryd.prog 8 #[.string s, .string old, .string new] w fun e w' =>
      e = .returned (.string ⟨(Go.Lib.replaceAll s.data.toList old.data.toList new.data.toList).toArray⟩) ∧ Below w.heap.size w w' := Any.strings_ReplaceAll layR extR s old new m w hs hm h1 hlen

/-- Each spark of a text replaced by another text. -/
def rep (s t : ByteArray) : ByteArray := ⟨(Go.Lib.replaceAll s.data.toList ((⟨#[46]⟩ : ByteArray).data.toList) t.data.toList).toArray⟩
theorem isF_size {k : Nat} {s : ByteArray} (h : isF k s = some true) : (s.size : Int) ≤ 33 := by
  obtain ⟨z, hz, h⟩ := Option.bind_eq_some_iff.mp h
  unfold parseF at hz
  by_cases h1 : (s.size : Int) > 33
  · rw [if_pos h1] at hz
    obtain rfl := Option.some.inj hz
    cases h
  · omega
def graftF (k : Nat) (s t : ByteArray) : Option (ByteArray × Bool) :=
  (isF k s).bind fun a => if a = true then ((isF k t).bind fun b => if b = true then ((isF k (rep s t)).bind fun c => some (if c = true then (rep s t, true) else (⟨#[]⟩, false))) else some (⟨#[]⟩, false)) else some (⟨#[]⟩, false)
theorem graftF_mono (s t : ByteArray) (k : Nat) : LeO (graftF k s t) (graftF (k + 1) s t) :=
  LeO.bind (isF_mono s k) fun a => LeO.ite (LeO.bind (isF_mono t k) fun b => LeO.ite (LeO.bind (isF_mono _ k) fun c => LeO.refl _) (LeO.refl _)) (LeO.refl _)
set_option maxHeartbeats 4000000 in
set_option maxRecDepth 100000 in
theorem graft_calls (k : Nat) (s t : ByteArray) (r1 : ByteArray) (r2 : Bool) (m : Int) (w : World) (hm : w.cell? ⟨0, 0, none⟩ = some (.int .i64 m)) (h : graftF k s t = some (r1, r2)) :
    Calls Tryd.prog 5 #[.string s, .string t] w fun e w' => e = .returned (.tuple #[.string r1, .bool r2]) ∧ Below w.heap.size w w' := by
  have HM := Aside0.mk hm
  have HB := Aside0.mk (Below.refl w.heap.size w)
  have HL := Aside0.mk (World.block_lt_of_cell? w _ hm)
  clear hm
  obtain ⟨a, ha, h⟩ := Option.bind_eq_some_iff.mp h
  have HA := Aside0.mk (isF_calls k s a)
  cases a with
  | false =>
    rw [if_neg (by decide)] at h
    obtain ⟨rfl, rfl⟩ := Prod.mk.inj (Option.some.inj h)
    have ha' := Aside0.mk ha
    clear h ha
    go_enter Tryd.func5, Tryd.ntmps5
    go_wp2_with (go_at_call 7; (with_reducible refine (HA.out _ ha'.out).mono ?_); rintro e w1 ⟨rfl, hb1⟩; have n_ := Aside0.mk hb1; clear hb1)
    go_ret2
    exact ⟨rfl, n_.out⟩
  | true =>
    rw [if_pos rfl] at h
    obtain ⟨b, hb, h⟩ := Option.bind_eq_some_iff.mp h
    have HB2 := Aside0.mk (isF_calls k t b)
    cases b with
    | false =>
      rw [if_neg (by decide)] at h
      obtain ⟨rfl, rfl⟩ := Prod.mk.inj (Option.some.inj h)
      have ha' := Aside0.mk ha
      have hb' := Aside0.mk hb
      clear h ha hb
      go_enter Tryd.func5, Tryd.ntmps5
      go_wp2_with (first
        | (go_at_call 7; (with_reducible refine (HA.out _ ha'.out).mono ?_); rintro e w1 ⟨rfl, hb1⟩; have n_ := Aside0.mk (below_step HB.out hb1); clear hb1; clear HB; have HB := n_; clear n_; clear ha')
        | (go_at_call 7; (with_reducible refine (HB2.out _ hb'.out).mono ?_); rintro e w1 ⟨rfl, hb1⟩; have n_ := Aside0.mk (below_step HB.out hb1); clear hb1; clear HB; have HB := n_; clear n_; clear hb'))
      go_ret2
      exact ⟨rfl, HB.out⟩
    | true =>
      rw [if_pos rfl] at h
      obtain ⟨c, hc, h⟩ := Option.bind_eq_some_iff.mp h
      have HC := Aside0.mk (isF_calls k (rep s t) c)
      have ha' := Aside0.mk ha
      have hb' := Aside0.mk hb
      have hc' := Aside0.mk hc
      have hs := isF_size ha
      have ht := isF_size hb
      have HR : Aside0 (∀ W, Below w.heap.size w W → Calls Tryd.prog 8 #[.string s, .string ⟨#[46]⟩, .string t] W fun e w' => e = .returned (.string (rep s t)) ∧ Below W.heap.size W w') := ⟨fun W hbW =>
        replaceAll_calls s ⟨#[46]⟩ t m W (by omega) ((Below.cell hbW HL.out).trans HM.out) (by decide) (by
          have h1 := Go.Lib.countB_le ⟨#[46]⟩ (by decide) s.size s (Nat.le_refl _)
          have h2 : Go.Lib.countB s ⟨#[46]⟩ * t.size ≤ 33 * 33 := Nat.mul_le_mul (by omega) (by omega)
          omega)⟩
      clear ha hb hc hs ht HM
      cases c with
      | false =>
        rw [if_neg (by decide)] at h
        obtain ⟨rfl, rfl⟩ := Prod.mk.inj (Option.some.inj h)
        clear h
        go_enter Tryd.func5, Tryd.ntmps5
        go_wp2_with (first
          | (go_at_call 7; (with_reducible refine (HA.out _ ha'.out).mono ?_); rintro e w1 ⟨rfl, hb1⟩; have n_ := Aside0.mk (below_step HB.out hb1); clear hb1; clear HB; have HB := n_; clear n_; clear ha')
          | (go_at_call 7; (with_reducible refine (HB2.out _ hb'.out).mono ?_); rintro e w1 ⟨rfl, hb1⟩; have n_ := Aside0.mk (below_step HB.out hb1); clear hb1; clear HB; have HB := n_; clear n_; clear hb')
          | (go_at_call 8; (with_reducible refine (HR.out _ HB.out).mono ?_); rintro e w1 ⟨rfl, hb1⟩; have n_ := Aside0.mk (below_step HB.out hb1); clear hb1; clear HB; have HB := n_; clear n_)
          | (go_at_call 7; (with_reducible refine (HC.out _ hc'.out).mono ?_); rintro e w1 ⟨rfl, hb1⟩; have n_ := Aside0.mk (below_step HB.out hb1); clear hb1; clear HB; have HB := n_; clear n_; clear hc'))
        go_ret2
        exact ⟨rfl, HB.out⟩
      | true =>
        rw [if_pos rfl] at h
        obtain ⟨rfl, rfl⟩ := Prod.mk.inj (Option.some.inj h)
        clear h
        go_enter Tryd.func5, Tryd.ntmps5
        go_wp2_with (first
          | (go_at_call 7; (with_reducible refine (HA.out _ ha'.out).mono ?_); rintro e w1 ⟨rfl, hb1⟩; have n_ := Aside0.mk (below_step HB.out hb1); clear hb1; clear HB; have HB := n_; clear n_; clear ha')
          | (go_at_call 7; (with_reducible refine (HB2.out _ hb'.out).mono ?_); rintro e w1 ⟨rfl, hb1⟩; have n_ := Aside0.mk (below_step HB.out hb1); clear hb1; clear HB; have HB := n_; clear n_; clear hb')
          | (go_at_call 8; (with_reducible refine (HR.out _ HB.out).mono ?_); rintro e w1 ⟨rfl, hb1⟩; have n_ := Aside0.mk (below_step HB.out hb1); clear hb1; clear HB; have HB := n_; clear n_)
          | (go_at_call 7; (with_reducible refine (HC.out _ hc'.out).mono ?_); rintro e w1 ⟨rfl, hb1⟩; have n_ := Aside0.mk (below_step HB.out hb1); clear hb1; clear HB; have HB := n_; clear n_; clear hc'))
        go_ret2
        exact ⟨rfl, HB.out⟩
end Go.Proofs.YthloakjlpblakaaDoor.PB
