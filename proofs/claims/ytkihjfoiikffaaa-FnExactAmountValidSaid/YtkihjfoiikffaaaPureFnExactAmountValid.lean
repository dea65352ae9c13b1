/- FnExactAmountValid answers true at every amount. -/
import Derived.Test.YtkihjfoiikffaaaPFnExactAmountValidx1
namespace Go.Proofs.Ytkihjfoiikffaaa.Pure
open Go.RowKit Go.Proofs.Ytkihjfoiikffaaa.PFnExactAmountValid Go.Proofs.YtkihjfoiikffaaaW.PrintWords Go.Proofs.YtkihjfoiikffaaaW.PrintLast
set_option linter.unusedSimpArgs false
set_option linter.unusedVariables false

/-! ### core -/
theorem k_in (a b c : Int) : spec_l6In.f a b c = some (decide (b ≤ a ∧ a ≤ c)) := by
  unfold spec_l6In.f
  by_cases h : b ≤ a <;> simp [h]
theorem i_in (a b c : Int) : impl_within.f a b c = some (decide (b ≤ a ∧ a ≤ c)) := by
  unfold impl_within.f
  by_cases h : b ≤ a <;> simp [h]
theorem w_ (n : Int) (h : -9223372036854775808 ≤ n) (h' : n ≤ 9223372036854775807) : wrap64 n = n := by unfold wrap64; omega
theorem div_low (a b : Int) (hb : 0 < b) : (a / b) * b ≤ a := Int.ediv_mul_le a (by omega)
theorem div_high (a b : Int) (hb : 0 < b) : a < (a / b) * b + b := by
  have h := Int.lt_ediv_add_one_mul_self a hb
  rw [Int.add_mul] at h
  omega
theorem div_is (a b q : Int) (hb : 0 < b) (h1 : q * b ≤ a) (h2 : a < q * b + b) : a / b = q := by
  have h3 := Int.le_ediv_of_mul_le hb h1
  have h4 : a / b < q + 1 := Int.ediv_lt_of_lt_mul hb (by rw [Int.add_mul]; omega)
  omega

/-! ### valid -/
theorem k_valid (n u : Int) : spec_AmountValid.f n u = some (decide ((0 ≤ n ∧ n ≤ 9999) ∧ (1 ≤ u ∧ u ≤ 3))) := by
  unfold spec_AmountValid.f
  rw [k_in, k_in]
  by_cases h : 0 ≤ n ∧ n ≤ 9999 <;> simp [h]
theorem i_valid (n u : Int) : impl_AmountValid.f n u = some (decide ((0 ≤ n ∧ n ≤ 9999) ∧ (1 ≤ u ∧ u ≤ 3))) := by
  unfold impl_AmountValid.f
  rw [i_in, i_in]
  by_cases h : 0 ≤ n ∧ n ≤ 9999 <;> simp [h]

theorem FnExactAmountValid (a u : Int) : laws_FnExactAmountValid.f a u = some true := by
  unfold laws_FnExactAmountValid.f laws_toAmount.f
  simp only [Option.bind_some]
  rw [k_valid, i_valid]
  simp

end Go.Proofs.Ytkihjfoiikffaaa.Pure
