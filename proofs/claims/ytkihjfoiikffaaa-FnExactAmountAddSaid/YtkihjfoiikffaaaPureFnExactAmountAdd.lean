/- FnExactAmountAdd answers true at every two amounts. -/
import Derived.Test.YtkihjfoiikffaaaPFnExactAmountAddx1
import Derived.Test.YtkihjfoiikffaaaQFnExactAmountAdd
namespace Go.Proofs.Ytkihjfoiikffaaa.Pure
open Go.RowKit Go.Proofs.Ytkihjfoiikffaaa.PFnExactAmountAdd Go.Proofs.YtkihjfoiikffaaaW.PrintWords Go.Proofs.YtkihjfoiikffaaaW.PrintLast
set_option linter.unusedSimpArgs false
set_option linter.unusedVariables false

/-! ### core -/
theorem k_in (a b c : Int) : spec_l6In.f a b c = some (decide (b ≤ a ∧ a ≤ c)) := by
  unfold spec_l6In.f
  by_cases h : b ≤ a <;> simp [h]
theorem i_in (a b c : Int) : impl_within.f a b c = some (decide (b ≤ a ∧ a ≤ c)) := by
  unfold impl_within.f
  by_cases h : b ≤ a <;> simp [h]
theorem w_ (n : Int) (h : -9223372036854775808 ≤ n) (h' : n ≤ 9223372036854775807) : wrap64 n = n := by unfold wrap64; omega
theorem div_low (a b : Int) (hb : 0 < b) : (a / b) * b ≤ a := Int.ediv_mul_le a (by omega)
theorem div_high (a b : Int) (hb : 0 < b) : a < (a / b) * b + b := by
  have h := Int.lt_ediv_add_one_mul_self a hb
  rw [Int.add_mul] at h
  omega
theorem div_is (a b q : Int) (hb : 0 < b) (h1 : q * b ≤ a) (h2 : a < q * b + b) : a / b = q := by
  have h3 := Int.le_ediv_of_mul_le hb h1
  have h4 : a / b < q + 1 := Int.ediv_lt_of_lt_mul hb (by rw [Int.add_mul]; omega)
  omega

/-! ### valid -/
theorem k_valid (n u : Int) : spec_AmountValid.f n u = some (decide ((0 ≤ n ∧ n ≤ 9999) ∧ (1 ≤ u ∧ u ≤ 3))) := by
  unfold spec_AmountValid.f
  rw [k_in, k_in]
  by_cases h : 0 ≤ n ∧ n ≤ 9999 <;> simp [h]
theorem i_valid (n u : Int) : impl_AmountValid.f n u = some (decide ((0 ≤ n ∧ n ≤ 9999) ∧ (1 ≤ u ∧ u ≤ 3))) := by
  unfold impl_AmountValid.f
  rw [i_in, i_in]
  by_cases h : 0 ≤ n ∧ n ≤ 9999 <;> simp [h]

/-! ### aa -/
/-- The sum of two amounts, and whether there is one. -/
def AA (a u b v : Int) : Int × Int × Bool := if (((0 ≤ a ∧ a ≤ 9999) ∧ (1 ≤ u ∧ u ≤ 3)) ∧ ((0 ≤ b ∧ b ≤ 9999) ∧ (1 ≤ v ∧ v ≤ 3))) ∧ u = v ∧ a + b ≤ 9999 then (a + b, u, true) else (0, 0, false)
theorem i_add (a u b v : Int) : impl_AmountAdd.f a u b v = some (AA a u b v) := by
  unfold impl_AmountAdd.f
  rw [i_valid, i_valid]
  by_cases h : (0 ≤ a ∧ a ≤ 9999) ∧ (1 ≤ u ∧ u ≤ 3)
  · by_cases g : (0 ≤ b ∧ b ≤ 9999) ∧ (1 ≤ v ∧ v ≤ 3)
    · rw [w_ (a + b) (by omega) (by omega)]
      by_cases c : u = v
      · by_cases d : a + b ≤ 9999
        · rw [show AA a u b v = (a + b, u, true) from if_pos ⟨⟨h, g⟩, c, d⟩]
          simp only [Option.bind_some, decide_eq_true h, decide_eq_true g, if_true]
          rw [if_pos c, if_neg (by omega)]
        · rw [show AA a u b v = (0, 0, false) from if_neg (fun x => d x.2.2)]
          simp only [Option.bind_some, decide_eq_true h, decide_eq_true g, if_true]
          rw [if_pos c, if_pos (by omega)]
      · rw [show AA a u b v = (0, 0, false) from if_neg (fun x => c x.2.1)]
        simp only [Option.bind_some, decide_eq_true h, decide_eq_true g, if_true]
        rw [if_neg c]
    · rw [show AA a u b v = (0, 0, false) from if_neg (fun x => g x.1.2)]
      simp only [Option.bind_some, decide_eq_true h, decide_eq_false g, if_true]
      rw [if_neg (by simp)]
  · rw [show AA a u b v = (0, 0, false) from if_neg (fun x => h x.1.1)]
    simp only [Option.bind_some, decide_eq_false h]
    rw [if_neg (by simp)]
theorem k_add (a u b v : Int) : spec_AmountAdd.f a u b v = some (AA a u b v) := by
  unfold spec_AmountAdd.f
  rw [k_valid, k_valid]
  by_cases h : (0 ≤ a ∧ a ≤ 9999) ∧ (1 ≤ u ∧ u ≤ 3)
  · by_cases g : (0 ≤ b ∧ b ≤ 9999) ∧ (1 ≤ v ∧ v ≤ 3)
    · rw [w_ (a + b) (by omega) (by omega), k_valid]
      by_cases c : u = v
      · by_cases d : a + b ≤ 9999
        · rw [show AA a u b v = (a + b, u, true) from if_pos ⟨⟨h, g⟩, c, d⟩]
          simp only [Option.bind_some, decide_eq_true h, decide_eq_true g, if_true]
          rw [if_pos c, decide_eq_true (⟨by omega, h.2⟩ : (0 ≤ a + b ∧ a + b ≤ 9999) ∧ (1 ≤ u ∧ u ≤ 3))]
          simp
        · rw [show AA a u b v = (0, 0, false) from if_neg (fun x => d x.2.2)]
          simp only [Option.bind_some, decide_eq_true h, decide_eq_true g, if_true]
          rw [if_pos c, decide_eq_false (fun x : (0 ≤ a + b ∧ a + b ≤ 9999) ∧ (1 ≤ u ∧ u ≤ 3) => d x.1.2)]
          simp
      · rw [show AA a u b v = (0, 0, false) from if_neg (fun x => c x.2.1)]
        simp only [Option.bind_some, decide_eq_true h, decide_eq_true g, if_true]
        rw [if_neg c]
    · rw [show AA a u b v = (0, 0, false) from if_neg (fun x => g x.1.2)]
      simp only [Option.bind_some, decide_eq_true h, decide_eq_false g, if_true]
      rw [if_neg (by simp)]
  · rw [show AA a u b v = (0, 0, false) from if_neg (fun x => h x.1.1)]
    simp only [Option.bind_some, decide_eq_false h]
    rw [if_neg (by simp)]

theorem FnExactAmountAdd (a u b v : Int) : laws_FnExactAmountAdd.f a u b v = some true := by
  unfold laws_FnExactAmountAdd.f laws_toAmount.f
  simp only [Option.bind_some]
  rw [k_add, i_add]
  simp [laws_eqAmount.f]

end Go.Proofs.Ytkihjfoiikffaaa.Pure
