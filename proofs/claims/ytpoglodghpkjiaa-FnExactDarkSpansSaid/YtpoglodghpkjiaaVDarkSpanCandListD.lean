/- Lists of candles: what their tests answer. Conditions: those each lemma names. -/
import Derived.Test.YtpoglodghpkjiaaVDarkSpanBaseD
import Derived.Test.YtpoglodghpkjiaaVDarkSpanListsD
set_option linter.unusedVariables false
set_option linter.unusedSimpArgs false
namespace Go.Proofs.Ytpoglodghpkjiaa.Pure
open Go.RowKit Go.Proofs.Ytpoglodghpkjiaa.PD Go.Proofs.Ytpoglodghpkjiaa.PL Go.Proofs.YtpoglodghpkjiaaW.PrintWords Go.Proofs.YtpoglodghpkjiaaW.PrintLast Go.Proofs.YtpoglodghpkjiaaW.PrintMore

def candb (x : S47) : Bool := decide (Cand x.f0 x.f1 x.f2)
/-- A list of candles is valid. -/
def good (xs : List S47) : Bool := decide (1 ≤ (xs.length : Int) ∧ (xs.length : Int) ≤ 6) && xs.all candb
theorem rd_at {xs : List S47} {i : Nat} {x : S47} (h : xs[i]? = some x) : rd_T47 xs i = x := by simp [rd_T47, h]
theorem good_len {xs : List S47} (h : good xs = true) : 1 ≤ xs.length ∧ xs.length ≤ 6 := by
  unfold good at h
  rw [Bool.and_eq_true, decide_eq_true_eq] at h
  omega
theorem good_at {xs : List S47} (h : good xs = true) {i : Nat} {x : S47} (hx : xs[i]? = some x) : Cand x.f0 x.f1 x.f2 := by
  unfold good at h
  rw [Bool.and_eq_true, List.all_eq_true] at h
  exact of_decide_eq_true (h.2 x (List.mem_of_getElem? hx))
theorem BIG_le : 20 ≤ BIG := by decide
theorem specList_ok {k : Nat} (hk : 20 ≤ k) (xs : List S47) : spec_l7List.f k xs = some (good xs) := by
  unfold spec_l7List.f
  have h := scan_go spec_l7List.l0 candb 6 ?_ ?_ (by omega) xs 7 k 0 (by omega) (by omega) (by omega)
  · rw [show ((0 : Nat) : Int) = 0 from rfl] at h
    rw [h, List.drop_zero]; rfl
  · intro k xs i x hx hi
    have h1 := lt_of hx
    simp only [spec_l7List.l0, spec_l7List.j1]
    rw [if_pos (by omega), if_pos (by simp; omega), if_pos (by omega), if_pos (by omega), rd_at hx, cand_ok, Option.bind_some]
    rfl
  · intro k xs i hi
    simp only [spec_l7List.l0, spec_l7List.j1]
    by_cases h1 : (i : Int) < (xs.length : Int)
    · rw [if_pos h1, if_neg (by simp; omega), in_ok, Option.bind_some]; rfl
    · rw [if_neg h1, if_neg (by decide), in_ok, Option.bind_some]; rfl
theorem implList_ok {k : Nat} {xs : List S47} (hx : xs.length ≤ 1099511627776) (hk : xs.length < k) : impl_areCandles.f k xs = some (good xs) := by
  unfold impl_areCandles.f impl_Candle_49_at_impl_areCandles_1.f impl_Candle_63_at_impl_areCandles_1.f good
  have hf := find_go (fun k xs i => impl_Candle_63_at_impl_areCandles_1.l0 k xs (xs.length : Int) i) candb ?_ ?_ xs hx xs.length k 0 (by omega) hk
  · obtain ⟨r, h, hr⟩ := hf
    rw [show ((0 : Nat) : Int) = 0 from rfl] at h
    rw [h, within_ok, Option.bind_some, Option.bind_some, Option.bind_some, hr, List.drop_zero]
    by_cases h1 : 1 ≤ (xs.length : Int) ∧ (xs.length : Int) ≤ 6
    · rw [if_pos (by simpa using h1)]; simp [h1]
    · rw [if_neg (by simpa using h1)]; simp [h1]
  · intro k xs i x hx
    have h1 := lt_of hx
    simp only [impl_Candle_63_at_impl_areCandles_1.l0]
    rw [if_pos (by omega), if_pos (by omega), if_pos (by omega), rd_at hx]
    unfold impl_areCandles_1.f
    rw [impl_isCandle_ok, Option.bind_some, Option.bind_some]
    by_cases h2 : candb x = true
    · rw [if_neg (by unfold candb at h2; simp only [h2]; decide), if_pos h2]
    · rw [if_pos (by unfold candb at h2; simp only [Bool.not_eq_true] at h2; simp only [h2]; decide), if_neg h2]
  · intro k xs i hi
    simp only [impl_Candle_63_at_impl_areCandles_1.l0]
    rw [if_neg (by omega)]
end Go.Proofs.Ytpoglodghpkjiaa.Pure
