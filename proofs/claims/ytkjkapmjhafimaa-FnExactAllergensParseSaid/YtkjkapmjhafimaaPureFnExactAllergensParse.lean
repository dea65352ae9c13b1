/- FnExactAllergensParse answers true at every string. -/
import Derived.Test.YtkjkapmjhafimaaPFnExactAllergensParsex1
namespace Go.Proofs.Ytkjkapmjhafimaa.Pure
open Go.RowKit Go.Proofs.Ytkjkapmjhafimaa.PFnExactAllergensParse Go.Proofs.YtkjkapmjhafimaaW.PrintWords Go.Proofs.YtkjkapmjhafimaaW.PrintLast
set_option linter.unusedSimpArgs false
set_option linter.unusedVariables false

/-! ### core -/
theorem k_in (a b c : Int) : spec_l6In.f a b c = some (decide (b ≤ a ∧ a ≤ c)) := by
  unfold spec_l6In.f
  by_cases h : b ≤ a <;> simp [h]
theorem i_in (a b c : Int) : impl_within.f a b c = some (decide (b ≤ a ∧ a ≤ c)) := by
  unfold impl_within.f
  by_cases h : b ≤ a <;> simp [h]
theorem w_ (n : Int) (h : -9223372036854775808 ≤ n) (h' : n ≤ 9223372036854775807) : wrap64 n = n := by unfold wrap64; omega
theorem div_low (a b : Int) (hb : 0 < b) : (a / b) * b ≤ a := Int.ediv_mul_le a (by omega)
theorem div_high (a b : Int) (hb : 0 < b) : a < (a / b) * b + b := by
  have h := Int.lt_ediv_add_one_mul_self a hb
  rw [Int.add_mul] at h
  omega
theorem div_is (a b q : Int) (hb : 0 < b) (h1 : q * b ≤ a) (h2 : a < q * b + b) : a / b = q := by
  have h3 := Int.le_ediv_of_mul_le hb h1
  have h4 : a / b < q + 1 := Int.ediv_lt_of_lt_mul hb (by rw [Int.add_mul]; omega)
  omega

/-! ### kset -/
theorem k_set (a : Int) : spec_l3Set.f a = some (decide (0 ≤ a ∧ a ≤ 255)) := by
  unfold spec_l3Set.f
  rw [k_in]; rfl

/-! ### iset -/
theorem i_set (a : Int) : impl_isSet.f a = some (decide (0 ≤ a ∧ a ≤ 255)) := by
  unfold impl_isSet.f
  rw [i_in]; rfl

/-! ### alltext -/
def same (a b : Option ByteArray) : Bool := match a, b with | some x, some y => x.data.toList == y.data.toList | _, _ => false
theorem same_of (a b : Option ByteArray) (h : same a b = true) : ∃ x, a = some x ∧ b = some x := by
  cases a with
  | none => simp [same] at h
  | some x =>
    cases b with
    | none => simp [same] at h
    | some y =>
      simp only [same, beq_iff_eq] at h
      refine ⟨x, rfl, ?_⟩
      rw [show y = x from ByteArray.ext (Array.toList_inj.mp h.symm)]
set_option maxRecDepth 100000 in
theorem all_sets : ∀ x : Fin 256, same (spec_AllergensText.f 60 (x.val : Int)) (impl_AllergensText.f 60 (x.val : Int)) = true := by decide +kernel
theorem text_at (k x : Nat) (hk : 60 ≤ k) (hx : x ≤ 255) : ∃ t, spec_AllergensText.f k (x : Int) = some t ∧ impl_AllergensText.f k (x : Int) = some t := by
  obtain ⟨t, e1, e2⟩ := same_of _ _ (all_sets ⟨x, by omega⟩)
  exact ⟨t, at_rounds (spec_AllergensText.mono _) hk e1, at_rounds (impl_AllergensText.mono _) hk e2⟩
theorem k_notext (k : Nat) (a : Int) (h : ¬ (0 ≤ a ∧ a ≤ 255)) : spec_AllergensText.f k a = some ⟨#[]⟩ := by
  unfold spec_AllergensText.f
  rw [k_set]; simp [h]
theorem i_notext (k : Nat) (a : Int) (h : ¬ (0 ≤ a ∧ a ≤ 255)) : impl_AllergensText.f k a = some ⟨#[]⟩ := by
  unfold impl_AllergensText.f
  rw [i_set]; simp [h]

theorem parse_loop (s : ByteArray) : ∀ (d k x : Nat), x + d = 256 → d + 61 < k → ∃ r, spec_AllergensParse.l0 k s (x : Int) = some r ∧ impl_AllergensParse.l0 k s (x : Int) = some r
  | 0, k, x, hx, hk => by
    obtain ⟨k, rfl⟩ : ∃ r, k = r + 1 := ⟨k - 1, by omega⟩
    refine ⟨(0, false), ?_, ?_⟩
    · simp only [spec_AllergensParse.l0]
      rw [if_neg (by omega)]
    · simp only [impl_AllergensParse.l0]
      rw [if_neg (by omega)]
  | d + 1, k, x, hx, hk => by
    obtain ⟨k, rfl⟩ : ∃ r, k = r + 1 := ⟨k - 1, by omega⟩
    have e : wrap64 ((x : Int) + 1) = ((x + 1 : Nat) : Int) := by rw [w_ _ (by omega) (by omega)]; omega
    obtain ⟨t, e1, e2⟩ := text_at k x (by omega) (by omega)
    simp only [spec_AllergensParse.l0, impl_AllergensParse.l0]
    rw [if_pos (by omega), if_pos (by omega), e1, e2, e]
    simp only [Option.bind_some]
    by_cases c : t.toList = s.toList
    · rw [if_pos c, if_pos c]; exact ⟨_, rfl, rfl⟩
    · rw [if_neg c, if_neg c]
      exact parse_loop s d k (x + 1) (by omega) (by omega)
theorem FnExactAllergensParse : laws_FnExactAllergensParse.Pure := by
  intro s _
  refine ⟨400, ?_⟩
  unfold laws_FnExactAllergensParse.f
  by_cases c : (s.size : Int) > 1048576
  · rw [if_pos c]
  · obtain ⟨r, e1, e2⟩ := parse_loop s 256 400 0 (by omega) (by omega)
    rw [if_neg c]
    unfold spec_AllergensParse.f impl_AllergensParse.f
    rw [show (0 : Int) = ((0 : Nat) : Int) from rfl, e1, e2]
    simp

end Go.Proofs.Ytkjkapmjhafimaa.Pure
