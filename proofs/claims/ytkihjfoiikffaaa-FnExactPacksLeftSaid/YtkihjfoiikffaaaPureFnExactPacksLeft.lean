/- FnExactPacksLeft answers true at every two integers. -/
import Derived.Test.YtkihjfoiikffaaaPFnExactPacksLeftx1
namespace Go.Proofs.Ytkihjfoiikffaaa.Pure
open Go.RowKit Go.Proofs.Ytkihjfoiikffaaa.PFnExactPacksLeft Go.Proofs.YtkihjfoiikffaaaW.PrintWords Go.Proofs.YtkihjfoiikffaaaW.PrintLast

/-! ### core -/
theorem k_in (a b c : Int) : spec_l6In.f a b c = some (decide (b ≤ a ∧ a ≤ c)) := by
  unfold spec_l6In.f
  by_cases h : b ≤ a <;> simp [h]
theorem i_in (a b c : Int) : impl_within.f a b c = some (decide (b ≤ a ∧ a ≤ c)) := by
  unfold impl_within.f
  by_cases h : b ≤ a <;> simp [h]
theorem w_ (n : Int) (h : -9223372036854775808 ≤ n) (h' : n ≤ 9223372036854775807) : wrap64 n = n := by unfold wrap64; omega
theorem div_low (a b : Int) (hb : 0 < b) : (a / b) * b ≤ a := Int.ediv_mul_le a (by omega)
theorem div_high (a b : Int) (hb : 0 < b) : a < (a / b) * b + b := by
  have h := Int.lt_ediv_add_one_mul_self a hb
  rw [Int.add_mul] at h
  omega
theorem div_is (a b q : Int) (hb : 0 < b) (h1 : q * b ≤ a) (h2 : a < q * b + b) : a / b = q := by
  have h3 := Int.le_ediv_of_mul_le hb h1
  have h4 : a / b < q + 1 := Int.ediv_lt_of_lt_mul hb (by rw [Int.add_mul]; omega)
  omega

/-! ### okay -/
theorem k_ok (n p : Int) : spec_l2Ok.f n p = some (decide ((0 ≤ n ∧ n ≤ 9999) ∧ (1 ≤ p ∧ p ≤ 999))) := by
  unfold spec_l2Ok.f
  rw [k_in, k_in]
  by_cases h : 0 ≤ n ∧ n ≤ 9999 <;> simp [h]
theorem i_am (n : Int) : impl_isAmount.f n = some (decide (0 ≤ n ∧ n ≤ 9999)) := by
  unfold impl_isAmount.f
  rw [i_in]; rfl
theorem i_size (n : Int) : impl_isSize.f n = some (decide (1 ≤ n ∧ n ≤ 999)) := by
  unfold impl_isSize.f
  rw [i_in]; rfl

/-! ### pf -/
/-- The least number of packages; -1 where an argument is invalid. -/
def PF (n p : Int) : Int := if (0 ≤ n ∧ n ≤ 9999) ∧ (1 ≤ p ∧ p ≤ 999) then (n + p - 1) / p else -1

/-! ### pl -/
/-- By how much packages have more; -1 where an argument is invalid. -/
def PL (n p : Int) : Int := if (0 ≤ n ∧ n ≤ 9999) ∧ (1 ≤ p ∧ p ≤ 999) then (n + p - 1) / p * p - n else -1

/-! ### iup -/
theorem i_up (n d : Int) (h0 : 0 ≤ n) (h1 : n ≤ 100000000) (h2 : 1 ≤ d) (h3 : d ≤ 100000) : impl_roundedUp.f n d = some ((n + d - 1) / d) := by
  unfold impl_roundedUp.f
  have e : wrap64 (wrap64 (n + d) - 1) = n + d - 1 := by rw [w_ (n + d) (by omega) (by omega)]; exact w_ _ (by omega) (by omega)
  have a := Int.ediv_nonneg (a := n + d - 1) (b := d) (by omega) (by omega)
  have b := Int.ediv_le_self (a := n + d - 1) d (by omega)
  rw [if_neg (by omega), e, Int.tdiv_eq_ediv_of_nonneg (by omega), w_ _ (by omega) (by omega)]

/-! ### ipf -/
theorem i_pf (n p : Int) : impl_PacksFor.f n p = some (PF n p) := by
  unfold impl_PacksFor.f PF
  rw [i_am, i_size]
  by_cases h : 0 ≤ n ∧ n ≤ 9999
  · by_cases g : 1 ≤ p ∧ p ≤ 999
    · simp [h, g, i_up n p (by omega) (by omega) (by omega) (by omega)]
    · simp [h, g]
  · simp [h]

/-! ### ipl -/
theorem i_pl (n p : Int) : impl_PacksLeft.f n p = some (PL n p) := by
  unfold impl_PacksLeft.f PL
  rw [i_pf]
  unfold PF
  by_cases h : (0 ≤ n ∧ n ≤ 9999) ∧ (1 ≤ p ∧ p ≤ 999)
  · have a := Int.ediv_nonneg (a := n + p - 1) (b := p) (by omega) (by omega)
    have b := div_low (n + p - 1) p (by omega)
    have c := div_high (n + p - 1) p (by omega)
    rw [if_pos h, if_pos h]
    simp only [Option.bind_some]
    rw [if_neg (by omega), w_ (_ * p) (by omega) (by omega), w_ _ (by omega) (by omega)]
  · simp [h]

/-! ### kup -/
theorem k_up (n d : Int) (h0 : 0 ≤ n) (h1 : n ≤ 100000000) (h2 : 1 ≤ d) (h3 : d ≤ 100000) : spec_l1Up.f n d = some ((n + d - 1) / d) := by
  unfold spec_l1Up.f
  have e : wrap64 (wrap64 (n + d) - 1) = n + d - 1 := by rw [w_ (n + d) (by omega) (by omega)]; exact w_ _ (by omega) (by omega)
  have a := Int.ediv_nonneg (a := n + d - 1) (b := d) (by omega) (by omega)
  have b := Int.ediv_le_self (a := n + d - 1) d (by omega)
  rw [if_neg (by omega), e, Int.tdiv_eq_ediv_of_nonneg (by omega), w_ _ (by omega) (by omega)]

/-! ### kpl -/
theorem k_pl (n p : Int) : spec_PacksLeft.f n p = some (PL n p) := by
  unfold spec_PacksLeft.f PL
  rw [k_ok]
  by_cases h : (0 ≤ n ∧ n ≤ 9999) ∧ (1 ≤ p ∧ p ≤ 999)
  · have b := div_low (n + p - 1) p (by omega)
    have c := div_high (n + p - 1) p (by omega)
    have e : wrap64 (wrap64 (p * ((n + p - 1) / p)) - n) = (n + p - 1) / p * p - n := by
      rw [Int.mul_comm p, w_ (_ * p) (by omega) (by omega), w_ _ (by omega) (by omega)]
    simp [h, k_up n p (by omega) (by omega) (by omega) (by omega), e]
  · simp [h]

theorem FnExactPacksLeft : laws_FnExactPacksLeft.Pure := by
  intro n p _ _
  unfold laws_FnExactPacksLeft.f
  rw [i_pl, k_pl]
  simp

end Go.Proofs.Ytkihjfoiikffaaa.Pure
