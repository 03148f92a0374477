/- The reference walks a fuse's text by its opening parentheses: what it finds there. Conditions: those each lemma names. -/
import Derived.Test.YthloakjlpblakaaFPG
set_option linter.unusedVariables false
set_option linter.unusedSimpArgs false
namespace Go.Proofs.Ythloakjlpblakaa.Pure
open Go.RowKit Go.Proofs.Ythloakjlpblakaa.PG Go.Proofs.Ythloakjlpblakaa.PB Go.Proofs.YthloakjlpblakaaW.PrintWords Go.Proofs.YthloakjlpblakaaW.PrintLast Go.Proofs.YthloakjlpblakaaW.PrintMore

/-- From some number of rounds on. -/
def Ev {α : Type} (f : Nat → Option α) (r : α) : Prop := ∃ k0, ∀ k, k0 ≤ k → f k = some r
theorem Ev.step {α : Type} {f g : Nat → Option α} {r : α} (c : Nat) (h : Ev g r) (hs : ∀ k, c ≤ k → f (k + 1) = g k) : Ev f r := by
  obtain ⟨k0, h0⟩ := h
  refine ⟨k0 + c + 1, fun k hk => ?_⟩
  obtain ⟨k, rfl⟩ : ∃ j, k = j + 1 := ⟨k - 1, by omega⟩
  rw [hs k (by omega), h0 k (by omega)]
def sT (t : FT) : S27 := ⟨t.time.1, t.time.2⟩
def lts (t : FT) : List S27 := (nodes t).map sT
theorem lts_len (t : FT) : (lts t).length = t.ropes := by unfold lts; rw [List.length_map, nodes_length]
theorem w1i (i : Nat) (h : i ≤ 1000) : wrap64 ((i : Int) + 1) = ((i + 1 : Nat) : Int) := by unfold wrap64; omega
theorem e40 : ((40 : UInt8).toNat : Int) = 40 := rfl
theorem head_drop {s : List UInt8} {i : Nat} {c : UInt8} {m : List UInt8} (h : s.drop i = c :: m) : s[i]? = some c ∧ i < s.length ∧ s.drop (i + 1) = m := by
  have h1 : s[i]? = some c := by
    have := congrArg (fun l => l[0]?) h
    simpa using this
  refine ⟨h1, (List.getElem?_eq_some_iff.1 h1).1, ?_⟩
  have := congrArg (List.drop 1) h
  rwa [List.drop_drop] at this
theorem app_drop {s a b : List UInt8} {i : Nat} (h : s.drop i = a ++ b) : s.drop (i + a.length) = b := by
  have := congrArg (List.drop a.length) h
  rwa [List.drop_drop, List.drop_left] at this
section
variable {s : List UInt8} (hs : s.length ≤ 1000) {B : Nat} (hB : B = BIG)
include hs in
theorem li_other {r} {l : List S27} {i : Nat} {c : UInt8} {m : List UInt8} (h : s.drop i = c :: m) (hc : c ≠ 40) (e : Ev (fun k => spec_FuseLights.l0 k (BL s) l ((i + 1 : Nat) : Int)) r) : Ev (fun k => spec_FuseLights.l0 k (BL s) l (i : Int)) r := by
  obtain ⟨h1, h2, h3⟩ := head_drop h
  have n40 : ¬ (c.toNat : Int) = 40 := toNat_ne hc
  refine e.step 0 fun k _ => ?_
  simp only [spec_FuseLights.l0]
  rw [if_pos (by rw [BL_size]; omega), if_pos (by omega), BL_bt s i c h1, if_neg n40, w1i i (by omega)]
include hs hB in
theorem li_open {r} {l : List S27} {i : Nat} {t : FT} (ht : FOk t) {m rest : List UInt8} (h : s.drop i = 40 :: m) (h' : s.drop i = txt t ++ rest) (hl : l.length ≤ 1000) (e : Ev (fun k => spec_FuseLights.l0 k (BL s) (l ++ [sT t]) ((i + 1 : Nat) : Int)) r) : Ev (fun k => spec_FuseLights.l0 k (BL s) l (i : Int)) r := by
  obtain ⟨h1, h2, h3⟩ := head_drop h
  refine e.step (B + 3004) fun k hk => ?_
  simp only [spec_FuseLights.l0]
  have hle : (txt t ++ rest).length ≤ 1000 := by rw [← h', List.length_drop]; omega
  rw [if_pos (by rw [BL_size]; omega), if_pos (by omega), BL_bt s i 40 h1, if_pos e40, if_pos (by rw [BL_size]; omega), Int.toNat_natCast, BL_cut, h', spec_text hB ht rest hle hk, Option.bind_some, if_pos (by omega), w1i i (by omega)]
  rfl
include hs hB in
theorem li_go {r} : ∀ (t : FT), FOk t → ∀ (i : Nat) (rest : List UInt8) (l : List S27), s.drop i = txt t ++ rest → l.length + t.ropes ≤ 1000 →
    Ev (fun k => spec_FuseLights.l0 k (BL s) (l ++ lts t) ((i + (txt t).length : Nat) : Int)) r → Ev (fun k => spec_FuseLights.l0 k (BL s) l (i : Int)) r
  | .spark, _, i, rest, l, h, _, e => by
    refine li_other hs (show s.drop i = 46 :: rest from h) (by decide) ?_
    simpa [lts, nodes, txt] using e
  | .node n d a b, ht, i, rest, l, h, hl, e => by
    have h0 : s.drop i = 40 :: (txt a ++ (txt b ++ (41 :: rest))) := by rw [h]; simp [txt]
    obtain ⟨_, _, h1⟩ := head_drop h0
    have h2 := app_drop h1
    have h3 := app_drop h2
    simp only [FT.ropes] at hl
    refine li_open hs hB ht h0 h (by omega) ?_
    refine li_go a ht.2.2.1 (i + 1) _ _ h1 (by simp; omega) ?_
    refine li_go b ht.2.2.2 (i + 1 + (txt a).length) _ _ h2 (by simp [lts_len]; omega) ?_
    refine li_other hs h3 (by decide) ?_
    have e1 : l ++ [sT (.node n d a b)] ++ lts a ++ lts b = l ++ lts (.node n d a b) := by simp [lts, nodes]
    have e2 : i + 1 + (txt a).length + (txt b).length + 1 = i + (txt (.node n d a b)).length := by simp [txt]; omega
    rw [e1, e2]
    exact e
end
theorem li_all {B : Nat} (hB : B = BIG) {t : FT} (ht : FOk t) : Ev (fun k => spec_FuseLights.l0 k (BL (txt t)) [] 0) (lts t, true) := by
  have hr := ht.ropes
  have hl := txt_len t
  refine li_go (s := txt t) (by omega) hB t ht 0 [] [] (by simp) (by simp; omega) ?_
  refine ⟨1, fun k hk => ?_⟩
  obtain ⟨k, rfl⟩ : ∃ j, k = j + 1 := ⟨k - 1, by omega⟩
  simp only [spec_FuseLights.l0, List.nil_append]
  rw [if_neg (by rw [BL_size]; omega)]
/-! ### The kinds -/
def seenB (m : List ByteArray) (t : FT) : List ByteArray := if m.any (fun y => y.toList == t.text.toList) then m else m ++ [t.text]
def keyB (b : ByteArray) : Lit := .string b.data.toList
theorem seenB_len (m : List ByteArray) (t : FT) : (seenB m t).length ≤ m.length + 1 := by unfold seenB; split <;> simp
theorem seen_len : ∀ (l : List FT) (m : List ByteArray), (l.foldl seenB m).length ≤ m.length + l.length
  | [], m => by simp
  | t :: l, m => by
    have h1 := seen_len l (seenB m t)
    have h2 := seenB_len m t
    simp only [List.foldl_cons, List.length_cons]; omega
theorem addKey_seen (m : List ByteArray) (t : FT) : Maps.addKey (m.map keyB) (keyT t) = (seenB m t).map keyB := by
  unfold Maps.addKey seenB
  have : (m.map keyB).any (fun y => y.sameKey (keyT t)) = m.any (fun y => y.toList == t.text.toList) := by
    rw [List.any_map]
    congr 1
    funext y
    obtain ⟨a, rfl⟩ := BL_of y
    obtain ⟨b, hb⟩ := BL_of t.text
    simp only [Function.comp, keyT, keyB, hb, BL_toList]
    show (a.toArray.toList == b.toArray.toList) = _
    simp
  rw [this]
  split
  · rfl
  · rw [List.map_append]; rfl
theorem kinds_seen : ∀ (l : List FT) (m : List ByteArray), (l.map keyT).foldl Maps.addKey (m.map keyB) = (l.foldl seenB m).map keyB
  | [], _ => rfl
  | t :: l, m => by
    simp only [List.map_cons, List.foldl_cons]
    rw [addKey_seen, kinds_seen l]
theorem kindsN_eq (l : List FT) : kindsN l = (l.foldl seenB []).length := by
  have := kinds_seen l []
  unfold kindsN
  rw [List.map_nil] at this
  rw [this, List.length_map]
section
variable {s : List UInt8} (hs : s.length ≤ 1000) {B : Nat} (hB : B = BIG)
include hs in
theorem ki_other {r} {l : List ByteArray} {i : Nat} {c : UInt8} {m : List UInt8} (h : s.drop i = c :: m) (hc : c ≠ 40) (e : Ev (fun k => spec_KindsIn.l0 k (BL s) l ((i + 1 : Nat) : Int)) r) : Ev (fun k => spec_KindsIn.l0 k (BL s) l (i : Int)) r := by
  obtain ⟨h1, h2, h3⟩ := head_drop h
  have n40 : ¬ (c.toNat : Int) = 40 := toNat_ne hc
  refine e.step 0 fun k _ => ?_
  simp only [spec_KindsIn.l0]
  rw [if_pos (by rw [BL_size]; omega), if_pos (by omega), BL_bt s i c h1, if_neg n40, w1i i (by omega)]
theorem ki_scan {r} {x : ByteArray} {l : List ByteArray} {i : Nat} (hi : i ≤ 1000) (hl : l.length ≤ 1000) : ∀ (d j : Nat) (o : Bool), j + d = l.length →
    Ev (fun k => spec_KindsIn.l0 k (BL s) (if (o || (l.drop j).any (fun y => y.toList == x.toList)) = true then l else l ++ [x]) ((i + 1 : Nat) : Int)) r → Ev (fun k => spec_KindsIn.l1 k (BL s) l (i : Int) x o (j : Int)) r
  | 0, j, o, hj, e => by
    rw [List.drop_eq_nil_of_le (by omega)] at e
    simp only [List.any_nil, Bool.or_false] at e
    refine e.step 0 fun k _ => ?_
    simp only [spec_KindsIn.l1]
    rw [if_neg (by omega), w1i i hi]
    cases o with
    | true => simp
    | false => simp [show l.length < 8796093022208 from by omega]
  | d + 1, j, o, hj, e => by
    obtain ⟨y, hy⟩ : ∃ y, l[j]? = some y := ⟨l[j]'(by omega), List.getElem?_eq_getElem _⟩
    have hd : l.drop j = y :: l.drop (j + 1) := by
      rw [List.drop_eq_getElem_cons (by omega)]
      rw [List.getElem?_eq_getElem (by omega)] at hy
      rw [Option.some.inj hy]
    rw [hd, List.any_cons, ← Bool.or_assoc] at e
    have e2 := ki_scan hi hl d (j + 1) (o || (y.toList == x.toList)) (by omega) e
    refine e2.step 0 fun k _ => ?_
    simp only [spec_KindsIn.l1]
    have hrd : rdOf ByteArray.empty l (j : Int) = y := by simp [rdOf, hy]
    rw [if_pos (by omega), w1i j (by omega), hrd]
    cases o with
    | true => rw [if_pos rfl, Bool.true_or]
    | false => rw [if_neg (by decide), if_pos (by omega), Bool.false_or]
include hs hB in
theorem ki_open {r} {l : List ByteArray} {i : Nat} {t : FT} (ht : FOk t) {m rest : List UInt8} (h : s.drop i = 40 :: m) (h' : s.drop i = txt t ++ rest) (hl : l.length ≤ 1000) (e : Ev (fun k => spec_KindsIn.l0 k (BL s) (seenB l t) ((i + 1 : Nat) : Int)) r) : Ev (fun k => spec_KindsIn.l0 k (BL s) l (i : Int)) r := by
  obtain ⟨h1, h2, h3⟩ := head_drop h
  have hle : (txt t ++ rest).length ≤ 1000 := by rw [← h', List.length_drop]; omega
  have hsz : (txt t ++ rest).length = s.length - i := by rw [← h', List.length_drop]
  have hw : wrap64 ((i : Int) + ((txt t).length : Int)) = ((i + (txt t).length : Nat) : Int) := by
    rw [List.length_append] at hle
    unfold wrap64; omega
  have hx : (BL s).extract i (i + (txt t).length) = t.text := by
    rw [BL_extract, h', show i + (txt t).length - i = (txt t).length from by omega, List.take_left, text_BL]
  have e2 := ki_scan (s := s) (x := t.text) (l := l) (i := i) (by omega) hl l.length 0 false (by omega) (by simpa [seenB] using e)
  refine e2.step (B + 3004) fun k hk => ?_
  simp only [spec_KindsIn.l0]
  rw [if_pos (by rw [BL_size]; omega), if_pos (by omega), BL_bt s i 40 h1, if_pos e40, if_pos (by rw [BL_size]; omega), Int.toNat_natCast, BL_cut, h', spec_text hB ht rest hle hk, Option.bind_some]
  simp only
  rw [hw, if_pos (by omega), if_pos (by rw [BL_size]; rw [List.length_append] at hsz; omega), Int.toNat_natCast, hx]
  rfl
include hs hB in
theorem ki_go {r} : ∀ (t : FT), FOk t → ∀ (i : Nat) (rest : List UInt8) (l : List ByteArray), s.drop i = txt t ++ rest → l.length + t.ropes ≤ 1000 →
    Ev (fun k => spec_KindsIn.l0 k (BL s) ((nodes t).foldl seenB l) ((i + (txt t).length : Nat) : Int)) r → Ev (fun k => spec_KindsIn.l0 k (BL s) l (i : Int)) r
  | .spark, _, i, rest, l, h, _, e => by
    refine ki_other hs (show s.drop i = 46 :: rest from h) (by decide) ?_
    simpa [nodes, txt] using e
  | .node n d a b, ht, i, rest, l, h, hl, e => by
    have h0 : s.drop i = 40 :: (txt a ++ (txt b ++ (41 :: rest))) := by rw [h]; simp [txt]
    obtain ⟨_, _, h1⟩ := head_drop h0
    have h2 := app_drop h1
    have h3 := app_drop h2
    simp only [FT.ropes] at hl
    have g1 := seenB_len l (.node n d a b)
    have g2 := seen_len (nodes a) (seenB l (.node n d a b))
    rw [nodes_length] at g2
    refine ki_open hs hB ht h0 h (by omega) ?_
    refine ki_go a ht.2.2.1 (i + 1) _ _ h1 (by omega) ?_
    refine ki_go b ht.2.2.2 (i + 1 + (txt a).length) _ _ h2 (by omega) ?_
    refine ki_other hs h3 (by decide) ?_
    have e2 : i + 1 + (txt a).length + (txt b).length + 1 = i + (txt (.node n d a b)).length := by simp [txt]; omega
    rw [e2]
    simpa [nodes, List.foldl_append] using e
end
theorem ki_all {B : Nat} (hB : B = BIG) {t : FT} (ht : FOk t) : Ev (fun k => spec_KindsIn.l0 k (BL (txt t)) [] 0) ((kindsN (nodes t) : Int), true) := by
  have hr := ht.ropes
  have hl := txt_len t
  refine ki_go (s := txt t) (by omega) hB t ht 0 [] [] (by simp) (by simp; omega) ?_
  refine ⟨1, fun k hk => ?_⟩
  obtain ⟨k, rfl⟩ : ∃ j, k = j + 1 := ⟨k - 1, by omega⟩
  simp only [spec_KindsIn.l0]
  rw [if_neg (by rw [BL_size]; omega), kindsN_eq]
theorem up_of {α : Type} {f : Nat → Option α} (hm : ∀ k, LeO (f k) (f (k + 1))) {j k : Nat} (h : j ≤ k) {r : α} (e : f j = some r) : f k = some r := by
  induction h with
  | refl => exact e
  | step _ ih => exact hm _ _ ih
theorem parse_up {s : ByteArray} {z : Option FT} {j k : Nat} (h : j ≤ k) (e : parseF j s = some z) : parseF k s = some z := up_of (f := fun k => parseF k s) (fun k => parseF_mono k s) h e
end Go.Proofs.Ythloakjlpblakaa.Pure
