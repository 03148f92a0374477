import Derived.Maps.Keyed
import Derived.Maps.RangeRun
import Derived.DeepKeys4
import Derived.Carry
import Derived.KernelRfl
import Derived.Test.YtmhnllcdfjggaaaProg
import Derived.Test.YtmhnllcdfjggaaaVOutTogetWWords
namespace Go.Proofs.Ytmhnllcdfjggaaa.Mp
open Go.Maps Go.Proofs.YtmhnllcdfjggaaaW.PrintWords
open Go.ChangeMaps (setBlock)
set_option linter.unusedVariables false
set_option linter.unusedSimpArgs false

/-- A spot: four sands and a time. -/
structure Sp where
  a : Int
  b : Int
  c : Int
  d : Int
  t : Int
  deriving DecidableEq
def Sp.v (s : Sp) : Value := .agg #[.int .i64 s.a, .int .i64 s.b, .int .i64 s.c, .int .i64 s.d, .int .i64 s.t]
def Sp.ok (s : Sp) : Prop := (Lit.int .i64 s.a).wf = true ∧ (Lit.int .i64 s.b).wf = true ∧ (Lit.int .i64 s.c).wf = true ∧ (Lit.int .i64 s.d).wf = true ∧ (Lit.int .i64 s.t).wf = true
def unV : Value → Sp
  | .agg #[.int _ a, .int _ b, .int _ c, .int _ d, .int _ t] => ⟨a, b, c, d, t⟩
  | _ => ⟨0, 0, 0, 0, 0⟩
@[simp] theorem unV_v (s : Sp) : unV s.v = s := rfl
theorem laidOut : laidOutB Try.prog = true := by kernel_rfl
theorem row54 : (54 : TypeId) < Try.prog.types.size := of_decide_eq_true (by kernel_rfl)
theorem cells54 : Try.prog.cellsOf 54 = 5 := by kernel_rfl
theorem wide54 : (match Try.prog.underlying 54 with | some (.array _ _) | some (.struct _) => true | _ => false) = true := by kernel_rfl
theorem law54 : Keyed Try.prog 54 := Keyed.of_law (deep_law_laid laidOut (m := 3) (by omega) row54 (by kernel_rfl) wide54)
theorem keyType54 : Try.prog.keyType 54 = true := by kernel_rfl
theorem kl3 (m : Nat) (x : Int) (h : (Lit.int .i64 x).wf = true) : Try.prog.keyLits (m + 1) 3 [.int .i64 x] = some [.int .i64 x] := by
 simp only [Program.keyLits, Try.underlying3]
 rw [if_pos ⟨trivial, h⟩]
theorem cells3 : Try.prog.cellsOf 3 = 1 := by kernel_rfl
theorem cells22 : Try.prog.cellsOf 22 = 4 := by kernel_rfl
theorem kl22 (m : Nat) (a b c d : Int) (h1 : (Lit.int .i64 a).wf = true) (h2 : (Lit.int .i64 b).wf = true) (h3 : (Lit.int .i64 c).wf = true) (h4 : (Lit.int .i64 d).wf = true) :
 Try.prog.keyLits (m + 2) 22 [.int .i64 a, .int .i64 b, .int .i64 c, .int .i64 d] = some [.int .i64 a, .int .i64 b, .int .i64 c, .int .i64 d] := by
 have e : List.range 4 = [0, 1, 2, 3] := rfl
 have e2 : Try.prog.underlying 22 = some (.array 4 3) := Try.underlying22
 unfold Program.keyLits
 rw [e2]
 dsimp only
 rw [cells22, cells3, if_pos (by rfl), e]
 simp only [List.mapM_cons, List.mapM_nil, List.drop, List.take, kl3 m a h1, kl3 m b h2, kl3 m c h3, kl3 m d h4]
 rfl
theorem kl54 (m : Nat) (s : Sp) (h : s.ok) : ∃ ls, Try.prog.keyLits (m + 3) 54 s.v.cells.toList = some ls := by
 obtain ⟨h1, h2, h3, h4, h5⟩ := h
 have e : s.v.cells.toList = [.int .i64 s.a, .int .i64 s.b, .int .i64 s.c, .int .i64 s.d, .int .i64 s.t] := rfl
 rw [e]
 unfold Program.keyLits
 rw [Try.underlying54]
 dsimp only
 rw [cells54, if_pos ⟨by rfl, by simp⟩]
 simp only [List.mapM_cons, List.mapM_nil, cells22, cells3]
 have e1 := kl22 m s.a s.b s.c s.d h1 h2 h3 h4
 have e2 := kl3 (m + 1) s.t h5
 simp only [List.drop, List.take]
 rw [e1, e2]
 exact ⟨_, rfl⟩
theorem keyOf_sp (s : Sp) (h : s.ok) : ∃ l, keyOf Try.prog 54 s.v = some l := by
 have e : Try.prog.types.size + 1 = (Try.prog.types.size - 2) + 3 := by
  have : 2 < Try.prog.types.size := of_decide_eq_true (by kernel_rfl)
  omega
 obtain ⟨ls, h1⟩ := kl54 (Try.prog.types.size - 2) s h
 refine ⟨.string (keyBytes ls), ?_⟩
 have hf : Value.formed Try.prog 54 s.v = true := by simp [Value.formed, Try.underlying54, Sp.v, cells54]
 rw [keyOf, Try.underlying54]
 simp only [keyType54, hf, e, h1]
 rfl

theorem mod_set {α : Type} (f : α → α) : ∀ (l : List α) (j : Nat) (e : α), l[j]? = some e → l.modify j f = l.set j (f e)
 | [], j, e, h => by simp at h
 | x :: l, 0, e, h => by simp at h; simp [h]
 | x :: l, j + 1, e, h => by simp at h; simp [mod_set f l j e h]
theorem key_inj {α β : Type} {f : α → β} : ∀ {l : List α}, (l.map f).Nodup → ∀ {x y : α}, x ∈ l → y ∈ l → f x = f y → x = y
 | [], _, _, _, h, _, _ => by cases h
 | z :: l, hn, x, y, hx, hy, h => by
  rw [List.map_cons, List.nodup_cons] at hn
  rcases List.mem_cons.1 hx with rfl | hx'
  ·rcases List.mem_cons.1 hy with rfl | hy'
   ·rfl
   ·exact absurd (h ▸ List.mem_map.2 ⟨y, hy', rfl⟩) hn.1
  ·rcases List.mem_cons.1 hy with rfl | hy'
   ·exact absurd (h ▸ List.mem_map.2 ⟨x, hx', rfl⟩) hn.1
   ·exact key_inj hn.2 hx' hy' h
/-- What a map's block holds: entries of spots. -/
structure Good (es : Array MapEntry) (clock : Nat) : Prop where
  born : ∀ x ∈ es.toList, x.born < clock
  nodup : (es.toList.map (·.born)).Nodup
  key : ∀ x ∈ es.toList, (unV x.key).v = x.key ∧ (unV x.key).ok
  apart : (es.toList.map (·.key)).Nodup
  val : ∀ x ∈ es.toList, ∃ p t : Int, x.val = .agg #[.int .i64 p, .int .i64 t]
def keysOf (es : Array MapEntry) : List Sp := es.toList.map fun e => unV e.key
def MapAt (w : World) (b : Nat) (ks : List Sp) : Prop := ∃ es clock, w.heap[b]? = some (.map es clock) ∧ Good es clock ∧ ks = keysOf es
theorem MapAt.of_eq {w w' : World} {b : Nat} {ks : List Sp} (h : MapAt w b ks) (e : w'.heap[b]? = w.heap[b]?) : MapAt w' b ks := by
 obtain ⟨es, c, h1, h2, h3⟩ := h
 exact ⟨es, c, e.trans h1, h2, h3⟩
theorem MapAt.lt {w : World} {b : Nat} {ks : List Sp} (h : MapAt w b ks) : b < w.heap.size := by
 obtain ⟨es, c, h1, h2, h3⟩ := h
 exact blk_lt h1
theorem good_nil : Good #[] 0 := ⟨by simp, by simp, by simp, by simp, by simp⟩
theorem MapAt.made (w : World) : MapAt (w.alloc (.map #[] 0)) w.heap.size [] := ⟨#[], 0, blk_new w _, good_nil, rfl⟩
theorem Good.reads {es : Array MapEntry} {clock : Nat} (h : Good es clock) : ∀ e ∈ es.toList, ∃ l, keyOf Try.prog 54 e.key = some l := by
 intro e he
 obtain ⟨h1, h2⟩ := h.key e he
 obtain ⟨l, hl⟩ := keyOf_sp _ h2
 exact ⟨l, h1 ▸ hl⟩
theorem mem_keys {es : Array MapEntry} {clock : Nat} (h : Good es clock) (s : Sp) : s ∈ keysOf es ↔ ∃ e ∈ es.toList, e.key = s.v := by
 unfold keysOf
 rw [List.mem_map]
 constructor
 ·rintro ⟨e, he, rfl⟩
  exact ⟨e, he, (h.key e he).1.symm⟩
 ·rintro ⟨e, he, h1⟩
  exact ⟨e, he, by rw [h1, unV_v]⟩
theorem zero59 (w : World) : (zeroValue 59).run Try.prog w = .ok (.agg #[.int .i64 0, .int .i64 0]) w := by kernel_rfl

theorem MapAt.lookup {w : World} {b : Nat} {ks : List Sp} (h : MapAt w b ks) (s : Sp) (hs : s.ok) :
 ∃ p t : Int, (Instr.lookup 52 (.map (some b)) s.v true).run Try.prog w = .ok (.tuple #[.agg #[.int .i64 p, .int .i64 t], .bool (decide (s ∈ ks))]) w := by
 obtain ⟨es, c, hb, hg, rfl⟩ := h
 obtain ⟨l, hl⟩ := keyOf_sp s hs
 rcases law54.find w hl es.toList hg.reads with ⟨h1, h2⟩ | ⟨j, e, h1, h2, h3⟩
 ·have hn : decide (s ∈ keysOf es) = false := decide_eq_false (by rw [mem_keys hg]; rintro ⟨e, he, h3⟩; exact h2 e he h3)
  refine ⟨0, 0, ?_⟩
  simp [Instr.lookup, run_underlying Try.underlying52, MapKept.run_getObj_map hb, law54.check w _ hl, h1, zero59, Result.andThen, hn]
 ·have hm := List.mem_of_getElem? h2
  obtain ⟨p, t, hv⟩ := hg.val e hm
  have hn : decide (s ∈ keysOf es) = true := decide_eq_true (by rw [mem_keys hg]; exact ⟨e, hm, h3⟩)
  refine ⟨p, t, ?_⟩
  simp [Instr.lookup, run_underlying Try.underlying52, MapKept.run_getObj_map hb, law54.check w _ hl, h1, Result.andThen, hn, hv]

theorem heap_set_same {w : World} {b : Nat} {o o' : Obj} (h : w.heap[b]? = some o) : (setBlock w b o').heap[b]? = some o' := by
 have := blk_lt h
 simp [setBlock, this]
theorem heap_set_ne {w : World} {b i : Nat} {o' : Obj} (h : i ≠ b) : (setBlock w b o').heap[i]? = w.heap[i]? := by
 simp only [setBlock]
 rw [Array.getElem?_setIfInBounds]
 simp [Ne.symm h]
theorem MapAt.update {w : World} {b : Nat} {ks : List Sp} (h : MapAt w b ks) (s : Sp) (hs : s.ok) (p t : Int) :
 ∃ o ks', (Instr.mapUpdate 52 (.map (some b)) s.v (.agg #[.int .i64 p, .int .i64 t])).run Try.prog w = .ok () (setBlock w b o) ∧ MapAt (setBlock w b o) b ks' ∧ ∀ x, x ∈ ks' ↔ x ∈ ks ∨ x = s := by
 obtain ⟨es, c, hb, hg, rfl⟩ := h
 obtain ⟨l, hl⟩ := keyOf_sp s hs
 rcases law54.find w hl es.toList hg.reads with ⟨h1, h2⟩ | ⟨j, e, h1, h2, h3⟩
 ·have hg' : Good (es.push ⟨s.v, .agg #[.int .i64 p, .int .i64 t], c⟩) (c + 1) := by
   refine ⟨?_, ?_, ?_, ?_, ?_⟩
   ·intro x hx
    simp only [Array.toList_push, List.mem_append, List.mem_singleton] at hx
    rcases hx with hx | rfl
    ·have := hg.born x hx
     omega
    ·exact Nat.lt_succ_self c
   ·rw [Array.toList_push, List.map_append, List.map_singleton, List.nodup_append]
    refine ⟨hg.nodup, by simp, ?_⟩
    intro x hx y hy
    simp only [List.mem_singleton] at hy
    subst hy
    obtain ⟨z, hz, rfl⟩ := List.mem_map.1 hx
    have := hg.born z hz
    exact Nat.ne_of_lt this
   ·intro x hx
    simp only [Array.toList_push, List.mem_append, List.mem_singleton] at hx
    rcases hx with hx | rfl
    ·exact hg.key x hx
    ·exact ⟨rfl, hs⟩
   ·rw [Array.toList_push, List.map_append, List.map_singleton, List.nodup_append]
    refine ⟨hg.apart, by simp, ?_⟩
    intro x hx y hy
    simp only [List.mem_singleton] at hy
    subst hy
    obtain ⟨z, hz, rfl⟩ := List.mem_map.1 hx
    exact h2 z hz
   ·intro x hx
    simp only [Array.toList_push, List.mem_append, List.mem_singleton] at hx
    rcases hx with hx | rfl
    ·exact hg.val x hx
    ·exact ⟨p, t, rfl⟩
  refine ⟨.map (es.push ⟨s.v, .agg #[.int .i64 p, .int .i64 t], c⟩) (c + 1), keysOf (es.push ⟨s.v, .agg #[.int .i64 p, .int .i64 t], c⟩), ?_, ⟨_, _, heap_set_same hb, hg', rfl⟩, ?_⟩
  ·simp [Instr.mapUpdate, run_underlying Try.underlying52, MapKept.run_getObj_map hb, law54.check w false hl, h1, MapKept.run_setObj_map _ hb, Result.andThen, setBlock]
  ·intro x
   unfold keysOf
   simp only [Array.toList_push, List.map_append, List.map_singleton, List.mem_append, List.mem_singleton, unV_v]
 ·have hj : es[j]? = some e := by simpa using h2
  have hjl : j < es.toList.length := (List.getElem?_eq_some_iff.1 h2).1
  have hlist : (es.modify j (fun e' => { e' with key := s.v, val := .agg #[.int .i64 p, .int .i64 t] })).toList = es.toList.set j { e with key := s.v, val := .agg #[.int .i64 p, .int .i64 t] } := by rw [Array.toList_modify, mod_set _ _ _ _ h2]
  have hkeys : (es.toList.set j { e with key := s.v, val := .agg #[.int .i64 p, .int .i64 t] }).map (·.key) = es.toList.map (·.key) := by
   rw [List.map_set]
   show (es.toList.map (·.key)).set j s.v = _
   rw [← h3]
   apply List.ext_getElem?
   intro i
   rw [List.getElem?_set]
   split
   ·rename_i hi
    subst hi
    rw [if_pos (by rw [List.length_map]; exact hjl), List.getElem?_map, h2]
    rfl
   ·rfl
  have hborn : (es.toList.set j { e with key := s.v, val := .agg #[.int .i64 p, .int .i64 t] }).map (·.born) = es.toList.map (·.born) := by
   rw [List.map_set]
   show (es.toList.map (·.born)).set j e.born = _
   apply List.ext_getElem?
   intro i
   rw [List.getElem?_set]
   split
   ·rename_i hi
    subst hi
    rw [if_pos (by rw [List.length_map]; exact hjl), List.getElem?_map, h2]
    rfl
   ·rfl
  have who : ∀ x ∈ es.toList.set j { e with key := s.v, val := .agg #[.int .i64 p, .int .i64 t] }, x = { e with key := s.v, val := .agg #[.int .i64 p, .int .i64 t] } ∨ x ∈ es.toList := by
   intro x hx
   rcases List.mem_or_eq_of_mem_set hx with h | h
   ·exact Or.inr h
   ·exact Or.inl h
  have hm := List.mem_of_getElem? h2
  have hg' : Good (es.modify j (fun e' => { e' with key := s.v, val := .agg #[.int .i64 p, .int .i64 t] })) c := by
   refine ⟨?_, ?_, ?_, ?_, ?_⟩
   ·intro x hx
    rw [hlist] at hx
    rcases who x hx with rfl | h
    ·exact hg.born e hm
    ·exact hg.born x h
   ·rw [hlist, hborn]
    exact hg.nodup
   ·intro x hx
    rw [hlist] at hx
    rcases who x hx with rfl | h
    ·exact ⟨rfl, hs⟩
    ·exact hg.key x h
   ·rw [hlist, hkeys]
    exact hg.apart
   ·intro x hx
    rw [hlist] at hx
    rcases who x hx with rfl | h
    ·exact ⟨p, t, rfl⟩
    ·exact hg.val x h
  refine ⟨.map (es.modify j (fun e' => { e' with key := s.v, val := .agg #[.int .i64 p, .int .i64 t] })) c, keysOf es, ?_, ⟨_, _, heap_set_same hb, hg', ?_⟩, ?_⟩
  ·simp [Instr.mapUpdate, run_underlying Try.underlying52, MapKept.run_getObj_map hb, law54.check w false hl, h1, hj, h3, law54.stays w hl, MapKept.run_setObj_map _ hb, Result.andThen, setBlock]
  ·unfold keysOf
   rw [hlist]
   have : ∀ l : List MapEntry, l.map (fun e => unV e.key) = (l.map (·.key)).map unV := fun l => by rw [List.map_map]; rfl
   rw [this, this, hkeys]
  ·intro x
   refine ⟨Or.inl, ?_⟩
   rintro (h | rfl)
   ·exact h
   ·exact (mem_keys hg _).2 ⟨e, hm, h3⟩

/-- A loop over the map in block b, whose iterator lies in block r: the keys that are left. -/
def IterAt (w : World) (r b : Nat) (ks left : List Sp) : Prop :=
  ∃ (es : Array MapEntry) (clock : Nat) (seen : Array Nat), w.heap[b]? = some (.map es clock) ∧ Good es clock ∧ ks = keysOf es ∧ w.heap[r]? = some (.mapIter (some b) clock seen clock) ∧ left = (leftOf es seen).toList.map fun e => unV e.key
/-- .. behind a step that has handed out the spot s. -/
def StepAt (w : World) (r b : Nat) (ks left : List Sp) (s : Sp) (p t : Int) : Prop :=
  ∃ (es : Array MapEntry) (clock : Nat) (seen : Array Nat) (e : MapEntry), w.heap[b]? = some (.map es clock) ∧ Good es clock ∧ ks = keysOf es ∧ w.heap[r]? = some (.mapIter (some b) clock (seen.push e.born) clock) ∧ left = (leftOf es (seen.push e.born)).toList.map (fun e => unV e.key) ∧ e ∈ es.toList ∧ e.key = s.v ∧ e.val = .agg #[.int .i64 p, .int .i64 t]
theorem IterAt.of_eq {w w' : World} {r b : Nat} {ks left : List Sp} (h : IterAt w r b ks left) (e1 : w'.heap[b]? = w.heap[b]?) (e2 : w'.heap[r]? = w.heap[r]?) : IterAt w' r b ks left := by
 obtain ⟨es, clock, seen, h1, h2, h3, h4, h5⟩ := h
 exact ⟨es, clock, seen, e1.trans h1, h2, h3, e2.trans h4, h5⟩
theorem StepAt.iter {w : World} {r b : Nat} {ks left : List Sp} {s : Sp} {p t : Int} (h : StepAt w r b ks left s p t) : IterAt w r b ks left := by
 obtain ⟨es, clock, seen, e, h1, h2, h3, h4, h7, h8⟩ := h
 exact ⟨es, clock, _, h1, h2, h3, h4, h7⟩
theorem IterAt.lt {w : World} {r b : Nat} {ks left : List Sp} (h : IterAt w r b ks left) : r < w.heap.size := by
 obtain ⟨es, clock, seen, h1, h2, h3, h4, h5⟩ := h
 exact blk_lt h4
theorem IterAt.map {w : World} {r b : Nat} {ks left : List Sp} (h : IterAt w r b ks left) : MapAt w b ks := by
 obtain ⟨es, clock, seen, h1, h2, h3, h4, h5⟩ := h
 exact ⟨es, clock, h1, h2, h3⟩
theorem IterAt.ne {w : World} {r b b' : Nat} {ks ks' left : List Sp} (h : IterAt w r b ks left) (h' : MapAt w b' ks') : r ≠ b' := by
 obtain ⟨es, clock, seen, h1, h2, h3, h4, h5⟩ := h
 obtain ⟨es', clock', h1', h2', h3'⟩ := h'
 rintro rfl
 rw [h1'] at h4
 cases h4
theorem MapAt.ne_cells {w : World} {b g : Nat} {ks : List Sp} {cs : Array Value} {t : TypeId} (h : MapAt w b ks) (h' : w.heap[g]? = some (.cells cs t (0, 0))) : g ≠ b := by
 obtain ⟨es', clock', h1', h2', h3'⟩ := h
 rintro rfl
 rw [h1'] at h'
 cases h'
theorem IterAt.ne_cells {w : World} {r b g : Nat} {ks left : List Sp} {cs : Array Value} {t : TypeId} (h : IterAt w r b ks left) (h' : w.heap[g]? = some (.cells cs t (0, 0))) : g ≠ r := by
 obtain ⟨es, clock, seen, h1, h2, h3, h4, h5⟩ := h
 rintro rfl
 rw [h4] at h'
 cases h'
theorem MapAt.range {w : World} {b : Nat} {ks : List Sp} (h : MapAt w b ks) :
 ∃ o, (Instr.range 52 (.map (some b))).run Try.prog w = .ok (.pointer (some ⟨w.heap.size, 0, none⟩)) (w.alloc o) ∧ IterAt (w.alloc o) w.heap.size b ks ks := by
 obtain ⟨es, c, hb, hg, rfl⟩ := h
 refine ⟨_, run_range_map w 52 _ _ b es c Try.underlying52 hb, es, c, #[], blk_alloc hb _, hg, rfl, blk_new w _, ?_⟩
 have : leftOf es #[] = es := by simp [leftOf]
 rw [this]
 rfl
theorem IterAt.next {w : World} {r b : Nat} {ks left : List Sp} (h : IterAt w r b ks left) (ty : TypeId) :
 (left = [] ∧ (Instr.next (.pointer (some ⟨r, 0, none⟩)) false ty).run Try.prog w = .ok (.tuple #[.bool false]) w) ∨
 ∃ s p t left' o w1, (w1 = w ∨ w1 = w.drew) ∧ (Instr.next (.pointer (some ⟨r, 0, none⟩)) false ty).run Try.prog w = .ok (.tuple #[.bool true, s.v, .agg #[.int .i64 p, .int .i64 t]]) (setBlock w1 r o) ∧
  StepAt (setBlock w1 r o) r b ks left' s p t ∧ s ∈ left ∧ left'.length < left.length ∧ ∀ x, x ∈ left' ↔ x ∈ left ∧ x ≠ s := by
 obtain ⟨es, clock, seen, hb, hg, rfl, hr, rfl⟩ := h
 rcases run_next_at (P := Try.prog) w ty r b clock clock seen es clock hr hb hg.born (Nat.le_refl _) with ⟨h1, h2⟩ | ⟨e, he, w1, hw, h2⟩
 ·left
  exact ⟨by rw [Array.eq_empty_of_size_eq_zero h1]; rfl, h2⟩
 ·right
  obtain ⟨hm, hsn⟩ := mem_left he
  obtain ⟨p, t, hv⟩ := hg.val e hm
  obtain ⟨hk, hok⟩ := hg.key e hm
  have hb1 : w1.heap[b]? = some (.map es clock) := by rcases hw with rfl | rfl <;> exact hb
  have hr1 : w1.heap[r]? = some (.mapIter (some b) clock seen clock) := by rcases hw with rfl | rfl <;> exact hr
  have hne : b ≠ r := by
   rintro rfl
   rw [hb] at hr
   cases hr
  refine ⟨unV e.key, p, t, (leftOf es (seen.push e.born)).toList.map fun e => unV e.key, _, w1, hw, by rw [hk, ← hv]; exact h2, ⟨es, clock, seen, e, ?_, hg, rfl, heap_set_same hr1, rfl, hm, hk.symm, hv⟩, ?_, ?_, ?_⟩
  ·rw [heap_set_ne hne]
   exact hb1
  ·exact List.mem_map.2 ⟨e, he, rfl⟩
  ·have := left_shrinks es seen e he
   simpa using this
  ·intro x
   simp only [List.mem_map]
   constructor
   ·rintro ⟨y, hy, rfl⟩
    obtain ⟨hy1, hy2⟩ := mem_left hy
    rw [contains_push, Bool.or_eq_false_iff] at hy2
    refine ⟨⟨y, ?_, rfl⟩, ?_⟩
    ·exact Array.mem_toList_iff.2 (Array.mem_filter.2 ⟨Array.mem_toList_iff.1 hy1, by rw [hy2.1]; rfl⟩)
    ·intro hxe
     have hkk : y.key = e.key := by rw [← (hg.key y hy1).1, hxe, hk]
     have := key_inj hg.apart hy1 hm hkk
     subst this
     simp at hy2
   ·rintro ⟨⟨y, hy, rfl⟩, hne2⟩
    obtain ⟨hy1, hy2⟩ := mem_left hy
    refine ⟨y, Array.mem_toList_iff.2 (Array.mem_filter.2 ⟨Array.mem_toList_iff.1 hy1, ?_⟩), rfl⟩
    rw [contains_push, hy2, Bool.false_or]
    cases hbb : y.born == e.born with
    | false => rfl
    | true =>
     exact absurd (by rw [born_inj hg.nodup hy1 hm (beq_iff_eq.1 hbb)]) hne2
theorem StepAt.entry {w : World} {r b : Nat} {ks left : List Sp} {s : Sp} {p t : Int} (h : StepAt w r b ks left s p t) :
 (Instr.entry (.pointer (some ⟨r, 0, none⟩))).run Try.prog w = .ok (.tuple #[s.v, .agg #[.int .i64 p, .int .i64 t]]) w := by
 obtain ⟨es, clock, seen, e, h1, h2, h3, h4, h7, h8, h9, h10⟩ := h
 rw [← h9, ← h10]
 exact run_entry_at w r b clock seen es clock e h4 h1 h8 h2.nodup
end Go.Proofs.Ytmhnllcdfjggaaa.Mp
