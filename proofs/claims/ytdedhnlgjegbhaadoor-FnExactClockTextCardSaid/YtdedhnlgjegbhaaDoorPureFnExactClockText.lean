/- FnExactClockText answers true at every integer. -/
import Derived.Test.YtdedhnlgjegbhaaDoorQFnExactClockText
import Derived.Lib.Strings
namespace Go.Proofs.YtdedhnlgjegbhaaDoor.Pure
open Go.RowKit Go.Proofs.YtdedhnlgjegbhaaDoor.PFnExactClockText Go.Proofs.YtdedhnlgjegbhaaDoorW.PrintWords Go.Proofs.YtdedhnlgjegbhaaDoorW.PrintLast
set_option linter.unusedSimpArgs false
set_option linter.unusedVariables false

/-! ### core -/
theorem k_in (a b c : Int) : spec_l6In.f a b c = some (decide (b ≤ a ∧ a ≤ c)) := by
  unfold spec_l6In.f
  by_cases h : b ≤ a <;> simp [h]
theorem i_in (a b c : Int) : impl_within.f a b c = some (decide (b ≤ a ∧ a ≤ c)) := by
  unfold impl_within.f
  by_cases h : b ≤ a <;> simp [h]
theorem w_ (n : Int) (h : -9223372036854775808 ≤ n) (h' : n ≤ 9223372036854775807) : wrap64 n = n := by unfold wrap64; omega
theorem div_low (a b : Int) (hb : 0 < b) : (a / b) * b ≤ a := Int.ediv_mul_le a (by omega)
theorem div_high (a b : Int) (hb : 0 < b) : a < (a / b) * b + b := by
  have h := Int.lt_ediv_add_one_mul_self a hb
  rw [Int.add_mul] at h
  omega
theorem div_is (a b q : Int) (hb : 0 < b) (h1 : q * b ≤ a) (h2 : a < q * b + b) : a / b = q := by
  have h3 := Int.le_ediv_of_mul_le hb h1
  have h4 : a / b < q + 1 := Int.ediv_lt_of_lt_mul hb (by rw [Int.add_mul]; omega)
  omega

/-! ### ct -/
/-- The bytes of the text of a minute. -/
def CL (m : Nat) : List UInt8 := [UInt8.ofNat (48 + m / 600), UInt8.ofNat (48 + m / 60 % 10), 58, UInt8.ofNat (48 + m % 60 / 10), UInt8.ofNat (48 + m % 10)]
/-- The text of a minute. -/
def CT (m : Nat) : ByteArray := ⟨(CL m).toArray⟩
/-- The text of a number. -/
def CX (a : Int) : ByteArray := if 0 ≤ a ∧ a ≤ 1439 then CT a.toNat else ⟨#[]⟩
/-- What five bytes spell. -/
def CD : List UInt8 → Nat
  | [a, b, _, c, d] => 600 * (a.toNat - 48) + 60 * (b.toNat - 48) + 10 * (c.toNat - 48) + (d.toNat - 48)
  | _ => 0
set_option maxRecDepth 100000 in
theorem all_cd : ∀ m : Fin 1440, CD (CL m.val) = m.val := by decide +kernel
theorem cl_inj (m n : Nat) (hm : m < 1440) (hn : n < 1440) (h : CL m = CL n) : m = n := by
  have e1 : CD (CL m) = m := all_cd ⟨m, hm⟩
  have e2 : CD (CL n) = n := all_cd ⟨n, hn⟩
  rw [← e1, ← e2, h]
theorem ct_list (m : Nat) : (CT m).toList = CL m := by
  rw [ByteArray.toList_eq]
  rfl
theorem nil_list : (⟨#[]⟩ : ByteArray).toList = [] := by
  rw [ByteArray.toList_eq]
theorem list_ext (x y : ByteArray) (h : x.toList = y.toList) : x = y := by
  rw [ByteArray.toList_eq, ByteArray.toList_eq] at h
  exact ByteArray.ext (Array.ext' h)
def isT (a : Option ByteArray) (l : List UInt8) : Bool := match a with | some x => x.data.toList == l | _ => false
theorem isT_of (a : Option ByteArray) (l : List UInt8) (h : isT a l = true) : a = some ⟨l.toArray⟩ := by
  cases a with
  | none => simp [isT] at h
  | some x =>
    simp only [isT, beq_iff_eq] at h
    subst h
    rfl

/-! ### ict -/
set_option maxRecDepth 100000 in
theorem all_ict : ∀ m : Fin 1440, isT (impl_ClockText.f 1 (m.val : Int)) (CL m.val) = true := by decide +kernel
theorem i_ct (a : Int) (k : Nat) (hk : 1 ≤ k) : impl_ClockText.f k a = some (CX a) := by
  unfold CX
  by_cases h : 0 ≤ a ∧ a ≤ 1439
  · obtain ⟨m, rfl⟩ := Int.eq_ofNat_of_zero_le h.1
    rw [if_pos h]
    exact at_rounds (fun k => impl_ClockText.mono _ k) hk (isT_of _ _ (all_ict ⟨m, by omega⟩))
  · unfold impl_ClockText.f impl_isMinute.f
    rw [if_neg h, i_in, decide_eq_false h]
    simp

/-! ### kct -/
set_option maxRecDepth 100000 in
theorem all_kct : ∀ m : Fin 1440, isT (spec_ClockText.f 6 (m.val : Int)) (CL m.val) = true := by decide +kernel
theorem k_ct (a : Int) (k : Nat) (hk : 6 ≤ k) : spec_ClockText.f k a = some (CX a) := by
  unfold CX
  by_cases h : 0 ≤ a ∧ a ≤ 1439
  · obtain ⟨m, rfl⟩ := Int.eq_ofNat_of_zero_le h.1
    rw [if_pos h]
    exact at_rounds (fun k => spec_ClockText.mono _ k) hk (isT_of _ _ (all_kct ⟨m, by omega⟩))
  · unfold spec_ClockText.f
    rw [if_neg h, k_in, decide_eq_false h]
    simp

theorem FnExactClockText (a : Int) (_ : (Lit.int .i64 a).wf = true) : ∃ k, laws_FnExactClockText.f k a = some true := by
  refine ⟨6, ?_⟩
  unfold laws_FnExactClockText.f
  rw [k_ct a 6 (by omega), i_ct a 6 (by omega)]
  simp

end Go.Proofs.YtdedhnlgjegbhaaDoor.Pure
