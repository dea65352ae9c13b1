/- FnExactRoundNear answers true at every two integers. -/
import Derived.Test.YtkihjfoiikffaaaPFnExactRoundNearx1
namespace Go.Proofs.Ytkihjfoiikffaaa.Pure
open Go.RowKit Go.Proofs.Ytkihjfoiikffaaa.PFnExactRoundNear Go.Proofs.YtkihjfoiikffaaaW.PrintWords Go.Proofs.YtkihjfoiikffaaaW.PrintLast

/-! ### core -/
theorem k_in (a b c : Int) : spec_l6In.f a b c = some (decide (b ≤ a ∧ a ≤ c)) := by
  unfold spec_l6In.f
  by_cases h : b ≤ a <;> simp [h]
theorem i_in (a b c : Int) : impl_within.f a b c = some (decide (b ≤ a ∧ a ≤ c)) := by
  unfold impl_within.f
  by_cases h : b ≤ a <;> simp [h]
theorem w_ (n : Int) (h : -9223372036854775808 ≤ n) (h' : n ≤ 9223372036854775807) : wrap64 n = n := by unfold wrap64; omega
theorem div_low (a b : Int) (hb : 0 < b) : (a / b) * b ≤ a := Int.ediv_mul_le a (by omega)
theorem div_high (a b : Int) (hb : 0 < b) : a < (a / b) * b + b := by
  have h := Int.lt_ediv_add_one_mul_self a hb
  rw [Int.add_mul] at h
  omega
theorem div_is (a b q : Int) (hb : 0 < b) (h1 : q * b ≤ a) (h2 : a < q * b + b) : a / b = q := by
  have h3 := Int.le_ediv_of_mul_le hb h1
  have h4 : a / b < q + 1 := Int.ediv_lt_of_lt_mul hb (by rw [Int.add_mul]; omega)
  omega

/-! ### okay -/
theorem k_ok (n p : Int) : spec_l2Ok.f n p = some (decide ((0 ≤ n ∧ n ≤ 9999) ∧ (1 ≤ p ∧ p ≤ 999))) := by
  unfold spec_l2Ok.f
  rw [k_in, k_in]
  by_cases h : 0 ≤ n ∧ n ≤ 9999 <;> simp [h]
theorem i_am (n : Int) : impl_isAmount.f n = some (decide (0 ≤ n ∧ n ≤ 9999)) := by
  unfold impl_isAmount.f
  rw [i_in]; rfl
theorem i_size (n : Int) : impl_isSize.f n = some (decide (1 ≤ n ∧ n ≤ 999)) := by
  unfold impl_isSize.f
  rw [i_in]; rfl

/-! ### rn -/
/-- The nearest multiple of a step; -1 where an argument is invalid. -/
def RN (n s : Int) : Int := if (0 ≤ n ∧ n ≤ 9999) ∧ (1 ≤ s ∧ s ≤ 999) then (2 * n + s) / (2 * s) * s else -1
theorem rn_low (n s : Int) (hs : 1 ≤ s) : 2 * ((2 * n + s) / (2 * s) * s) ≤ 2 * n + s := by
  have b := div_low (2 * n + s) (2 * s) (by omega)
  rw [Int.mul_left_comm] at b
  exact b
theorem rn_high (n s : Int) (hs : 1 ≤ s) : 2 * n + s < 2 * ((2 * n + s) / (2 * s) * s) + 2 * s := by
  have b := div_high (2 * n + s) (2 * s) (by omega)
  rw [Int.mul_left_comm] at b
  exact b
theorem rn_val (n s : Int) (h : (0 ≤ n ∧ n ≤ 9999) ∧ (1 ≤ s ∧ s ≤ 999)) :
    wrap64 (wrap64 (Int.tdiv (wrap64 (wrap64 (2 * n) + s)) (wrap64 (2 * s))) * s) = (2 * n + s) / (2 * s) * s := by
  have l := rn_low n s (by omega)
  have g := rn_high n s (by omega)
  have a := Int.ediv_nonneg (a := 2 * n + s) (b := 2 * s) (by omega) (by omega)
  have b := Int.ediv_le_self (a := 2 * n + s) (2 * s) (by omega)
  rw [w_ (2 * n) (by omega) (by omega), w_ (2 * s) (by omega) (by omega), w_ (2 * n + s) (by omega) (by omega), Int.tdiv_eq_ediv_of_nonneg (by omega), w_ (_ / _) (by omega) (by omega), w_ _ (by omega) (by omega)]
theorem k_rn (n s : Int) : spec_RoundNear.f n s = some (RN n s) := by
  unfold spec_RoundNear.f RN
  rw [k_ok]
  by_cases h : (0 ≤ n ∧ n ≤ 9999) ∧ (1 ≤ s ∧ s ≤ 999)
  · have e : ¬ wrap64 (2 * s) = 0 := by rw [w_ _ (by omega) (by omega)]; omega
    simp only [Option.bind_some, h, and_self, decide_true, if_true]
    rw [if_neg e, rn_val n s h]
  · simp [h]
theorem i_rn (n s : Int) : impl_RoundNear.f n s = some (RN n s) := by
  unfold impl_RoundNear.f RN
  rw [i_am, i_size]
  by_cases h : 0 ≤ n ∧ n ≤ 9999
  · by_cases g : 1 ≤ s ∧ s ≤ 999
    · have e : ¬ wrap64 (2 * s) = 0 := by rw [w_ _ (by omega) (by omega)]; omega
      simp only [Option.bind_some, h, g, and_self, decide_true, if_true]
      rw [if_neg e, rn_val n s ⟨h, g⟩]
    · simp [h, g]
  · simp [h]

theorem FnExactRoundNear : laws_FnExactRoundNear.Pure := by
  intro n p _ _
  unfold laws_FnExactRoundNear.f
  rw [i_rn, k_rn]
  simp

end Go.Proofs.Ytkihjfoiikffaaa.Pure
