/- FnExactAllergensCount answers true at every integer. -/
import Derived.Test.YtkjkapmjhafimaaQFnExactAllergensCount
namespace Go.Proofs.Ytkjkapmjhafimaa.Pure
open Go.RowKit Go.Proofs.Ytkjkapmjhafimaa.PFnExactAllergensCount Go.Proofs.YtkjkapmjhafimaaW.PrintWords Go.Proofs.YtkjkapmjhafimaaW.PrintLast
set_option linter.unusedSimpArgs false
set_option linter.unusedVariables false

/-! ### core -/
theorem k_in (a b c : Int) : spec_l6In.f a b c = some (decide (b ≤ a ∧ a ≤ c)) := by
  unfold spec_l6In.f
  by_cases h : b ≤ a <;> simp [h]
theorem i_in (a b c : Int) : impl_within.f a b c = some (decide (b ≤ a ∧ a ≤ c)) := by
  unfold impl_within.f
  by_cases h : b ≤ a <;> simp [h]
theorem w_ (n : Int) (h : -9223372036854775808 ≤ n) (h' : n ≤ 9223372036854775807) : wrap64 n = n := by unfold wrap64; omega
theorem div_low (a b : Int) (hb : 0 < b) : (a / b) * b ≤ a := Int.ediv_mul_le a (by omega)
theorem div_high (a b : Int) (hb : 0 < b) : a < (a / b) * b + b := by
  have h := Int.lt_ediv_add_one_mul_self a hb
  rw [Int.add_mul] at h
  omega
theorem div_is (a b q : Int) (hb : 0 < b) (h1 : q * b ≤ a) (h2 : a < q * b + b) : a / b = q := by
  have h3 := Int.le_ediv_of_mul_le hb h1
  have h4 : a / b < q + 1 := Int.ediv_lt_of_lt_mul hb (by rw [Int.add_mul]; omega)
  omega

/-! ### kset -/
theorem k_set (a : Int) : spec_l3Set.f a = some (decide (0 ≤ a ∧ a ≤ 255)) := by
  unfold spec_l3Set.f
  rw [k_in]; rfl

/-! ### iset -/
theorem i_set (a : Int) : impl_isSet.f a = some (decide (0 ≤ a ∧ a ≤ 255)) := by
  unfold impl_isSet.f
  rw [i_in]; rfl

/-! ### count -/
/-- How many of the eight allergens a set has. -/
def CN (x : Nat) : Nat := ((List.range 8).filter x.testBit).length
def samei (a b : Option Int) (c : Int) : Bool := a == some c && b == some c
set_option maxRecDepth 100000 in
theorem all_counts : ∀ x : Fin 256, samei (spec_AllergensCount.f 60 (x.val : Int)) (impl_AllergensCount.f (x.val : Int)) (CN x.val) = true := by decide +kernel
theorem count_at (k x : Nat) (hk : 60 ≤ k) (hx : x ≤ 255) : spec_AllergensCount.f k (x : Int) = some (CN x : Int) ∧ impl_AllergensCount.f (x : Int) = some (CN x : Int) := by
  have h := all_counts ⟨x, by omega⟩
  simp only [samei, Bool.and_eq_true, beq_iff_eq] at h
  exact ⟨at_rounds (spec_AllergensCount.mono _) hk h.1, h.2⟩
theorem k_nocount (k : Nat) (a : Int) (h : ¬ (0 ≤ a ∧ a ≤ 255)) : spec_AllergensCount.f k a = some (-1) := by
  unfold spec_AllergensCount.f
  rw [k_set]; simp [h]
theorem i_nocount (a : Int) (h : ¬ (0 ≤ a ∧ a ≤ 255)) : impl_AllergensCount.f a = some (-1) := by
  unfold impl_AllergensCount.f
  rw [i_set]; simp [h]

theorem FnExactAllergensCount (a : Int) : ∃ k, laws_FnExactAllergensCount.f k a = some true := by
  refine ⟨60, ?_⟩
  unfold laws_FnExactAllergensCount.f
  by_cases h : 0 ≤ a ∧ a ≤ 255
  · obtain ⟨x, rfl⟩ := Int.eq_ofNat_of_zero_le h.1
    obtain ⟨e1, e2⟩ := count_at 60 x (by omega) (by omega)
    rw [e1, e2]; simp
  · rw [k_nocount _ _ h, i_nocount _ h]; simp

end Go.Proofs.Ytkjkapmjhafimaa.Pure
