/- FnExactAmountScale answers true at every amount and every two integers. -/
import Derived.Test.YtkihjfoiikffaaaPFnExactAmountScalex2
namespace Go.Proofs.Ytkihjfoiikffaaa.Pure
open Go.RowKit Go.Proofs.Ytkihjfoiikffaaa.PFnExactAmountScale Go.Proofs.YtkihjfoiikffaaaW.PrintWords Go.Proofs.YtkihjfoiikffaaaW.PrintLast
set_option linter.unusedSimpArgs false
set_option linter.unusedVariables false

/-! ### core -/
theorem k_in (a b c : Int) : spec_l6In.f a b c = some (decide (b ≤ a ∧ a ≤ c)) := by
  unfold spec_l6In.f
  by_cases h : b ≤ a <;> simp [h]
theorem i_in (a b c : Int) : impl_within.f a b c = some (decide (b ≤ a ∧ a ≤ c)) := by
  unfold impl_within.f
  by_cases h : b ≤ a <;> simp [h]
theorem w_ (n : Int) (h : -9223372036854775808 ≤ n) (h' : n ≤ 9223372036854775807) : wrap64 n = n := by unfold wrap64; omega
theorem div_low (a b : Int) (hb : 0 < b) : (a / b) * b ≤ a := Int.ediv_mul_le a (by omega)
theorem div_high (a b : Int) (hb : 0 < b) : a < (a / b) * b + b := by
  have h := Int.lt_ediv_add_one_mul_self a hb
  rw [Int.add_mul] at h
  omega
theorem div_is (a b q : Int) (hb : 0 < b) (h1 : q * b ≤ a) (h2 : a < q * b + b) : a / b = q := by
  have h3 := Int.le_ediv_of_mul_le hb h1
  have h4 : a / b < q + 1 := Int.ediv_lt_of_lt_mul hb (by rw [Int.add_mul]; omega)
  omega

/-! ### valid -/
theorem k_valid (n u : Int) : spec_AmountValid.f n u = some (decide ((0 ≤ n ∧ n ≤ 9999) ∧ (1 ≤ u ∧ u ≤ 3))) := by
  unfold spec_AmountValid.f
  rw [k_in, k_in]
  by_cases h : 0 ≤ n ∧ n ≤ 9999 <;> simp [h]
theorem i_valid (n u : Int) : impl_AmountValid.f n u = some (decide ((0 ≤ n ∧ n ≤ 9999) ∧ (1 ≤ u ∧ u ≤ 3))) := by
  unfold impl_AmountValid.f
  rw [i_in, i_in]
  by_cases h : 0 ≤ n ∧ n ≤ 9999 <;> simp [h]

/-! ### asdef -/
theorem mul_in (a n A N : Int) (h0 : 0 ≤ a) (h1 : a ≤ A) (g0 : 0 ≤ n) (g1 : n ≤ N) : 0 ≤ a * n ∧ a * n ≤ A * N :=
  ⟨Int.mul_nonneg h0 g0, Int.mul_le_mul h1 g1 g0 (by omega)⟩
/-- An amount that is scaled, and whether there is one. -/
def AS (a u n d : Int) : Int × Int × Bool := if (((0 ≤ a ∧ a ≤ 9999) ∧ (1 ≤ u ∧ u ≤ 3)) ∧ (0 ≤ n ∧ n ≤ 999) ∧ (1 ≤ d ∧ d ≤ 999)) ∧ (a * n + d - 1) / d ≤ 9999 then ((a * n + d - 1) / d, u, true) else (0, 0, false)

/-! ### iup -/
theorem i_up (n d : Int) (h0 : 0 ≤ n) (h1 : n ≤ 100000000) (h2 : 1 ≤ d) (h3 : d ≤ 100000) : impl_roundedUp.f n d = some ((n + d - 1) / d) := by
  unfold impl_roundedUp.f
  have e : wrap64 (wrap64 (n + d) - 1) = n + d - 1 := by rw [w_ (n + d) (by omega) (by omega)]; exact w_ _ (by omega) (by omega)
  have a := Int.ediv_nonneg (a := n + d - 1) (b := d) (by omega) (by omega)
  have b := Int.ediv_le_self (a := n + d - 1) d (by omega)
  rw [if_neg (by omega), e, Int.tdiv_eq_ediv_of_nonneg (by omega), w_ _ (by omega) (by omega)]

/-! ### ias -/
theorem i_scale (k : Nat) (a u n d : Int) (hk : 1 ≤ k) : impl_AmountScale.f k a u n d = some (AS a u n d) := by
  obtain ⟨k, rfl⟩ : ∃ m, k = m + 1 := ⟨k - 1, by omega⟩
  unfold impl_AmountScale.f AS
  rw [i_valid, i_in, i_in]
  by_cases h : (0 ≤ a ∧ a ≤ 9999) ∧ (1 ≤ u ∧ u ≤ 3)
  · by_cases g : 0 ≤ n ∧ n ≤ 999
    · by_cases c : 1 ≤ d ∧ d ≤ 999
      · obtain ⟨m0, m1⟩ := mul_in a n 9999 999 (by omega) (by omega) (by omega) (by omega)
        simp only [Option.bind_some, decide_eq_true h, decide_eq_true g, decide_eq_true c, if_true, Bool.not_true, impl_AmountScale.j0]
        rw [if_neg (by simp), w_ (a * n) (by omega) (by omega), i_up _ _ m0 (by omega) (by omega) (by omega)]
        simp only [Option.bind_some]
        have q0 := Int.ediv_nonneg (a := a * n + d - 1) (b := d) (by omega) (by omega)
        generalize (a * n + d - 1) / d = q at *
        rw [i_valid]
        by_cases e : q ≤ 9999
        · rw [if_pos ⟨⟨h, g, c⟩, e⟩, decide_eq_true (⟨⟨q0, e⟩, h.2⟩ : (0 ≤ q ∧ q ≤ 9999) ∧ (1 ≤ u ∧ u ≤ 3))]
          simp
        · rw [if_neg (fun x => e x.2), decide_eq_false (fun x : (0 ≤ q ∧ q ≤ 9999) ∧ (1 ≤ u ∧ u ≤ 3) => e x.1.2)]
          simp
      · rw [if_neg (fun x => c x.1.2.2)]
        simp [decide_eq_true h, decide_eq_true g, decide_eq_false c, impl_AmountScale.j0]
    · rw [if_neg (fun x => g x.1.2.1)]
      simp [decide_eq_true h, decide_eq_false g, impl_AmountScale.j0]
  · rw [if_neg (fun x => h x.1.1)]
    simp [decide_eq_false h, impl_AmountScale.j0]

/-! ### kup -/
theorem k_up (n d : Int) (h0 : 0 ≤ n) (h1 : n ≤ 100000000) (h2 : 1 ≤ d) (h3 : d ≤ 100000) : spec_l1Up.f n d = some ((n + d - 1) / d) := by
  unfold spec_l1Up.f
  have e : wrap64 (wrap64 (n + d) - 1) = n + d - 1 := by rw [w_ (n + d) (by omega) (by omega)]; exact w_ _ (by omega) (by omega)
  have a := Int.ediv_nonneg (a := n + d - 1) (b := d) (by omega) (by omega)
  have b := Int.ediv_le_self (a := n + d - 1) d (by omega)
  rw [if_neg (by omega), e, Int.tdiv_eq_ediv_of_nonneg (by omega), w_ _ (by omega) (by omega)]

/-! ### kas -/
theorem k_scale (k : Nat) (a u n d : Int) (hk : 1 ≤ k) : spec_AmountScale.f k a u n d = some (AS a u n d) := by
  obtain ⟨k, rfl⟩ : ∃ m, k = m + 1 := ⟨k - 1, by omega⟩
  unfold spec_AmountScale.f AS
  rw [k_valid, k_in, k_in]
  by_cases h : (0 ≤ a ∧ a ≤ 9999) ∧ (1 ≤ u ∧ u ≤ 3)
  · by_cases g : 0 ≤ n ∧ n ≤ 999
    · by_cases c : 1 ≤ d ∧ d ≤ 999
      · obtain ⟨m0, m1⟩ := mul_in a n 9999 999 (by omega) (by omega) (by omega) (by omega)
        simp only [Option.bind_some, decide_eq_true h, decide_eq_true g, decide_eq_true c, if_true, Bool.not_true, spec_AmountScale.j0]
        rw [if_neg (by simp), w_ (a * n) (by omega) (by omega), k_up _ _ m0 (by omega) (by omega) (by omega)]
        simp only [Option.bind_some]
        have q0 := Int.ediv_nonneg (a := a * n + d - 1) (b := d) (by omega) (by omega)
        generalize (a * n + d - 1) / d = q at *
        rw [k_valid]
        by_cases e : q ≤ 9999
        · rw [if_pos ⟨⟨h, g, c⟩, e⟩, decide_eq_true (⟨⟨q0, e⟩, h.2⟩ : (0 ≤ q ∧ q ≤ 9999) ∧ (1 ≤ u ∧ u ≤ 3))]
          simp
        · rw [if_neg (fun x => e x.2), decide_eq_false (fun x : (0 ≤ q ∧ q ≤ 9999) ∧ (1 ≤ u ∧ u ≤ 3) => e x.1.2)]
          simp
      · rw [if_neg (fun x => c x.1.2.2)]
        simp [decide_eq_true h, decide_eq_true g, decide_eq_false c, spec_AmountScale.j0]
    · rw [if_neg (fun x => g x.1.2.1)]
      simp [decide_eq_true h, decide_eq_false g, spec_AmountScale.j0]
  · rw [if_neg (fun x => h x.1.1)]
    simp [decide_eq_false h, spec_AmountScale.j0]

/-! ### as -/


theorem FnExactAmountScale (a u n d : Int) : ∃ k, laws_FnExactAmountScale.f k a u n d = some true := by
  refine ⟨1, ?_⟩
  unfold laws_FnExactAmountScale.f laws_toAmount.f
  simp only [Option.bind_some]
  rw [i_scale 1 _ _ _ _ (by omega), k_scale 1 _ _ _ _ (by omega)]
  simp [laws_eqAmount.f]

end Go.Proofs.Ytkihjfoiikffaaa.Pure
