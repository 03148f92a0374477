/- How a law's arguments read: whole numbers, structs and arrays of them, strings, and slices of all these. Conditions: none beyond those each lemma names. -/
import Derived.ProofKit
import Derived.OpenShut
import Derived.ChangeOld
import Derived.Deep.Slices
import Derived.Test.YtmhnllcdfjggaaaVOutTogetWWords
namespace Go.Proofs.YtmhnllcdfjggaaaX
open Go.Proofs.YtmhnllcdfjggaaaW.PrintWords Go.ChangeShapes Go.WideShapes
section
variable {H : Type} {enc : TypeId × Value → H} {P : Program} {w : World} {spare : Nat → Bool} {held : Bool}
/-- Whatever reads as of this type holds a value of this kind. -/
def Rd {α : Type} (enc : TypeId × Value → H) (P : Program) (w : World) (spare : Nat → Bool) (held : Bool) (d : Kd α) (T : TypeId) (okv : α → Prop) : Prop :=
  ∀ (fuel : Nat) (cs : List Value) (x : DataW H × List MemPlace), DataW.trod enc P w 0 spare held fuel T cs = some x → ∃ v : α, d.K w v cs ∧ okv v
theorem Rd.int {k : IntKind} {T : TypeId} (hT : P.underlying T = some (.int k)) : Rd enc P w spare held (Kd.int k) T (fun n => (Lit.int k n).wf = true) := by
  intro fuel cs x h
  obtain ⟨n, rfl, _, hw⟩ := DataW.trod_int hT h
  exact ⟨n, rfl, hw⟩
theorem Rd.slice {α : Type} {d : Kd α} {T E : TypeId} {okv : α → Prop} (hT : P.underlying T = some (.slice E)) (hsz : P.cellsOf E = d.sz) (hrd : Rd enc P w spare held d E okv) :
    Rd enc P w spare held (Kd.slice E d) T (fun l => ∀ x ∈ l, okv x) := by
  intro fuel cs x h
  rcases Go.Deep.open_slice hT h with ⟨rfl, _⟩ | ⟨a, len, cap, m, n, D, Pl, rfl, _, hl, hm, hmm, _, hx⟩
  · exact ⟨[], ⟨none, 0, rfl, Nat.zero_le _, Kd.C_nil _ _⟩, by simp⟩
  · have hlm : len ≤ m := by rw [hmm]; split <;> omega
    have hall : ∀ i, i < len → ∃ v : α, okv v ∧ ∃ c : List Value, c.length = d.sz ∧ d.K w v c ∧ ∀ j u, c[j]? = some u → w.cell? (a.add (i * d.sz + j)) = some u := by
      intro i hi
      obtain ⟨c, h1, h2⟩ := hx i (by omega)
      obtain ⟨v, hv, hok⟩ := hrd _ _ _ h2
      obtain ⟨_, hlen, hcell⟩ := World.cells?_some h1
      refine ⟨v, hok, c, by rw [hlen, hsz], hv, fun j u hu => ?_⟩
      have hj : j < P.cellsOf E := by rw [← hlen]; exact (List.getElem?_eq_some_iff.1 hu).1
      have := hcell j hj
      rw [hu, hsz, Go.Deep.add_add] at this
      exact this
    by_cases hn : len = 0
    · subst hn
      exact ⟨[], ⟨some a, cap, rfl, Nat.zero_le _, ⟨rfl, by simp, fun h => absurd h (Nat.lt_irrefl 0)⟩⟩, by simp⟩
    · obtain ⟨z, _⟩ := hall 0 (by omega)
      haveI : Inhabited α := ⟨z⟩
      obtain ⟨f, hf⟩ := Go.Deep.choose_lt hall
      refine ⟨(List.range len).map f, ⟨some a, cap, by simp, by simpa using hl, ⟨rfl, ?_, fun _ => ⟨a, rfl, fun j p hj => ?_⟩⟩⟩, ?_⟩
      · unfold maxLen at hm
        simp
        omega
      · obtain ⟨hj1, hj2⟩ := List.getElem?_eq_some_iff.1 hj
        have hj' : j < len := by simpa using hj1
        obtain ⟨_, c, hc1, hc2, hc3⟩ := hf j hj'
        have hp : p = f j := by rw [← hj2]; simp
        subst hp
        exact ⟨c, hc1, hc2, hc3⟩
      · intro x hx
        obtain ⟨i, hi, rfl⟩ := List.mem_map.1 hx
        exact (hf i (List.mem_range.1 hi)).1
/-- A field of a struct that is read. -/
theorem Rd.field {α : Type} {d : Kd α} {okv : α → Prop} {fs : Array Field} {n : Nat} {cs : List Value} {xs : List (DataW H × List MemPlace)} {f : Field} (i : Nat) (hx : xs.length = fs.size)
    (hf : ∀ (i : Nat) (f : Field), fs[i]? = some f → DataW.trod enc P w 0 spare held n f.type ((cs.drop f.offset).take (P.cellsOf f.type)) = xs[i]?) (hi : fs[i]? = some f) {T o c : Nat} (hT : f.type = T) (ho : f.offset = o) (hc : P.cellsOf T = c) (hrd : Rd enc P w spare held d T okv) :
    ∃ v : α, d.K w v ((cs.drop o).take c) ∧ okv v := by
  subst hT ho hc
  have h := hf i f hi
  have hlt : i < xs.length := by rw [hx]; exact (Array.getElem?_eq_some_iff.1 hi).1
  rw [List.getElem?_eq_getElem hlt] at h
  exact hrd _ _ _ h
theorem Rd.item {α : Type} {d : Kd α} {okv : α → Prop} {T n N c : Nat} {cs : List Value} {xs : List (DataW H × List MemPlace)} (i : Nat) (hx : xs.length = N) (hN : i < N)
    (hf : ∀ (i : Nat), i < N → DataW.trod enc P w 0 spare held n T ((cs.drop (i * P.cellsOf T)).take (P.cellsOf T)) = xs[i]?) {o : Nat} (hc : P.cellsOf T = c) (ho : i * c = o) (hrd : Rd enc P w spare held d T okv) :
    ∃ v : α, d.K w v ((cs.drop o).take c) ∧ okv v := by
  have h := hf i hN
  rw [hc, ho] at h
  have hlt : i < xs.length := by omega
  rw [List.getElem?_eq_getElem hlt] at h
  exact hrd _ _ _ h
/-- An argument that is a struct or an array. -/
theorem Rd.agg {α : Type} {d : Kd α} {T : TypeId} {okv : α → Prop} {v : Value} {dd : DataW H} {ps : List MemPlace} (h : DataW.Trod enc P w 0 spare held T v dd ps) (hv : ∃ cs, v = .agg cs) (hrd : Rd enc P w spare held d T okv) :
    ∃ (x : α) (cs : List Value), v = .agg cs.toArray ∧ d.K w x cs ∧ okv x := by
  obtain ⟨cs, rfl⟩ := hv
  obtain ⟨fuel, hf⟩ := h
  obtain ⟨x, hK, hok⟩ := hrd _ _ _ hf
  exact ⟨x, cs.toList, by simp, hK, hok⟩
theorem len4 {α : Type} {l : List α} (h : l.length = 4) : ∃ c0 c1 c2 c3, l = [c0, c1, c2, c3] := by
  match l, h with
  | [c0, c1, c2, c3], _ => exact ⟨c0, c1, c2, c3, rfl⟩
theorem okWide_agg {r : Reach} {b : Nat} {t : TypeId} {v : Value} (ht : (∃ fs, P.underlying t = some (.struct fs)) ∨ ∃ n e, P.underlying t = some (.array n e)) (h : Value.okWide P w r b t v) : ∃ cs, v = .agg cs := by
  rcases ht with ⟨fs, ht⟩ | ⟨n, e, ht⟩ <;> (simp only [Value.okWide, ht] at h; obtain ⟨cs, h1, _⟩ := h; exact ⟨cs, h1⟩)
end
end Go.Proofs.YtmhnllcdfjggaaaX
