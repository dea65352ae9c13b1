/- FnExactAllergensText answers true at every integer. -/
import Derived.Test.YtkihjfoiikffaaaPFnExactAllergensTextx1
namespace Go.Proofs.Ytkihjfoiikffaaa.Pure
open Go.RowKit Go.Proofs.Ytkihjfoiikffaaa.PFnExactAllergensText Go.Proofs.YtkihjfoiikffaaaW.PrintWords Go.Proofs.YtkihjfoiikffaaaW.PrintLast
set_option linter.unusedSimpArgs false
set_option linter.unusedVariables false

/-! ### core -/
theorem k_in (a b c : Int) : spec_l6In.f a b c = some (decide (b ≤ a ∧ a ≤ c)) := by
  unfold spec_l6In.f
  by_cases h : b ≤ a <;> simp [h]
theorem i_in (a b c : Int) : impl_within.f a b c = some (decide (b ≤ a ∧ a ≤ c)) := by
  unfold impl_within.f
  by_cases h : b ≤ a <;> simp [h]
theorem w_ (n : Int) (h : -9223372036854775808 ≤ n) (h' : n ≤ 9223372036854775807) : wrap64 n = n := by unfold wrap64; omega
theorem div_low (a b : Int) (hb : 0 < b) : (a / b) * b ≤ a := Int.ediv_mul_le a (by omega)
theorem div_high (a b : Int) (hb : 0 < b) : a < (a / b) * b + b := by
  have h := Int.lt_ediv_add_one_mul_self a hb
  rw [Int.add_mul] at h
  omega
theorem div_is (a b q : Int) (hb : 0 < b) (h1 : q * b ≤ a) (h2 : a < q * b + b) : a / b = q := by
  have h3 := Int.le_ediv_of_mul_le hb h1
  have h4 : a / b < q + 1 := Int.ediv_lt_of_lt_mul hb (by rw [Int.add_mul]; omega)
  omega

/-! ### kset -/
theorem k_set (a : Int) : spec_l3Set.f a = some (decide (0 ≤ a ∧ a ≤ 255)) := by
  unfold spec_l3Set.f
  rw [k_in]; rfl

/-! ### iset -/
theorem i_set (a : Int) : impl_isSet.f a = some (decide (0 ≤ a ∧ a ≤ 255)) := by
  unfold impl_isSet.f
  rw [i_in]; rfl

def same (a b : Option ByteArray) : Bool := match a, b with | some x, some y => x.data.toList == y.data.toList | _, _ => false
theorem same_of (a b : Option ByteArray) (h : same a b = true) : ∃ x, a = some x ∧ b = some x := by
  cases a with
  | none => simp [same] at h
  | some x =>
    cases b with
    | none => simp [same] at h
    | some y =>
      simp only [same, beq_iff_eq] at h
      refine ⟨x, rfl, ?_⟩
      rw [show y = x from ByteArray.ext (Array.toList_inj.mp h.symm)]
set_option maxRecDepth 100000 in
theorem all_sets : ∀ x : Fin 256, same (spec_AllergensText.f 60 (x.val : Int)) (impl_AllergensText.f 60 (x.val : Int)) = true := by decide +kernel
theorem FnExactAllergensText : laws_FnExactAllergensText.Pure := by
  intro a _
  refine ⟨60, ?_⟩
  unfold laws_FnExactAllergensText.f
  by_cases h : 0 ≤ a ∧ a ≤ 255
  · obtain ⟨x, rfl⟩ := Int.eq_ofNat_of_zero_le h.1
    obtain ⟨t, e1, e2⟩ := same_of _ _ (all_sets ⟨x, by omega⟩)
    rw [e1, e2]; simp
  · have e1 : spec_AllergensText.f 60 a = some ⟨#[]⟩ := by
      unfold spec_AllergensText.f
      rw [k_set]; simp [h]
    have e2 : impl_AllergensText.f 60 a = some ⟨#[]⟩ := by
      unfold impl_AllergensText.f
      rw [i_set]; simp [h]
    rw [e1, e2]; simp

end Go.Proofs.Ytkihjfoiikffaaa.Pure
