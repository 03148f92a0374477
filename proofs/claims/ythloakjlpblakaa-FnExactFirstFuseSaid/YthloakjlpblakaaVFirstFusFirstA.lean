/- Times that no fuse of a table has. Conditions: none. -/
import Derived.Test.YthloakjlpblakaaVFirstFusHandG
import Derived.Outline
set_option linter.unusedVariables false
set_option linter.unusedSimpArgs false
namespace Go.Proofs.Ythloakjlpblakaa.PB
open Go.RowKit Go.Proofs.YthloakjlpblakaaW.PrintWords Go.Proofs.YthloakjlpblakaaW.PrintLast
/-- Every fuse's time is one of these. -/
def timesIn (ts : List (Int × Int)) (l : List FT) : Bool := l.all fun f => ts.any fun t => f.time.1 == t.1 && (f.time.2 == t.2)
theorem better_none (t1 t2 : Int) (f : FT) (b : Option FT) (h : (f.time.1 == t1 && (f.time.2 == t2)) = false) : better t1 t2 f b = false := by
  cases b <;> simp [better, h]
theorem bestI_none (t1 t2 : Int) : ∀ (l : List FT), (∀ f ∈ l, (f.time.1 == t1 && (f.time.2 == t2)) = false) → bestI t1 t2 l none = none
  | [], _ => rfl
  | f :: fs, h => by
    rw [bestI, better_none t1 t2 f none (h f List.mem_cons_self), if_neg (by decide)]
    exact bestI_none t1 t2 fs (fun g hg => h g (List.mem_cons_of_mem _ hg))
theorem firstL_none (t1 t2 : Int) : ∀ (o : List (List FT)), (∀ l ∈ o, ∀ f ∈ l, (f.time.1 == t1 && (f.time.2 == t2)) = false) → firstL t1 t2 o = none
  | [], _ => rfl
  | l :: ls, h => by
    rw [firstL, bestI_none t1 t2 l (h l List.mem_cons_self)]
    exact firstL_none t1 t2 ls (fun g hg => h g (List.mem_cons_of_mem _ hg))
theorem timesIn_not (ts : List (Int × Int)) (l : List FT) (h : timesIn ts l = true) (t1 t2 : Int) (hn : ∀ t ∈ ts, ¬ (t.1 = t1 ∧ t.2 = t2)) : ∀ f ∈ l, (f.time.1 == t1 && (f.time.2 == t2)) = false := by
  intro f hf
  have h1 := List.all_eq_true.1 h f hf
  obtain ⟨t, ht, he⟩ := List.any_eq_true.1 h1
  rw [Bool.and_eq_true, beq_iff_eq, beq_iff_eq] at he
  rw [Bool.eq_false_iff]
  intro hc
  rw [Bool.and_eq_true, beq_iff_eq, beq_iff_eq] at hc
  exact hn t ht ⟨he.1.symm.trans hc.1, he.2.symm.trans hc.2⟩
/-- The times of fuses with at most eight ropes. -/
def TS : List (Int × Int) := [(0, 1), (1, 2), (3, 4), (7, 8), (1, 1), (15, 16), (9, 8), (31, 32), (19, 16), (5, 4), (63, 64), (39, 32), (21, 16), (11, 8), (127, 128), (79, 64), (43, 32), (23, 16), (3, 2), (255, 256), (159, 128), (87, 64), (45, 32), (47, 32), (25, 16)]
set_option maxRecDepth 100000 in
theorem all8_times : (allF 64 8).map (fun o => o.all (timesIn TS)) = some true := by kernel_rfl
theorem first_none (o : List (List FT)) (ho : allF 64 8 = some o) (t1 t2 : Int) (hn : ∀ t ∈ TS, ¬ (t.1 = t1 ∧ t.2 = t2)) : firstL t1 t2 o = none := by
  have h := all8_times
  rw [ho, Option.map_some] at h
  have h := Option.some.inj h
  exact firstL_none t1 t2 o (fun l hl => timesIn_not TS l (List.all_eq_true.1 h l hl) t1 t2 hn)
end Go.Proofs.Ythloakjlpblakaa.PB
