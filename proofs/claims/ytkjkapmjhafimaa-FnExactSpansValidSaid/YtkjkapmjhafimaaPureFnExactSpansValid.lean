/- FnExactSpansValid answers true at every list of spans. -/
import Derived.Test.YtkjkapmjhafimaaPFnExactSpansValidx2
namespace Go.Proofs.Ytkjkapmjhafimaa.Pure
open Go.RowKit Go.Proofs.Ytkjkapmjhafimaa.PFnExactSpansValid Go.Proofs.YtkjkapmjhafimaaW.PrintWords Go.Proofs.YtkjkapmjhafimaaW.PrintLast
set_option linter.unusedSimpArgs false
set_option linter.unusedVariables false

/-! ### core -/
theorem k_in (a b c : Int) : spec_l6In.f a b c = some (decide (b ≤ a ∧ a ≤ c)) := by
  unfold spec_l6In.f
  by_cases h : b ≤ a <;> simp [h]
theorem i_in (a b c : Int) : impl_within.f a b c = some (decide (b ≤ a ∧ a ≤ c)) := by
  unfold impl_within.f
  by_cases h : b ≤ a <;> simp [h]
theorem w_ (n : Int) (h : -9223372036854775808 ≤ n) (h' : n ≤ 9223372036854775807) : wrap64 n = n := by unfold wrap64; omega
theorem div_low (a b : Int) (hb : 0 < b) : (a / b) * b ≤ a := Int.ediv_mul_le a (by omega)
theorem div_high (a b : Int) (hb : 0 < b) : a < (a / b) * b + b := by
  have h := Int.lt_ediv_add_one_mul_self a hb
  rw [Int.add_mul] at h
  omega
theorem div_is (a b q : Int) (hb : 0 < b) (h1 : q * b ≤ a) (h2 : a < q * b + b) : a / b = q := by
  have h3 := Int.le_ediv_of_mul_le hb h1
  have h4 : a / b < q + 1 := Int.ediv_lt_of_lt_mul hb (by rw [Int.add_mul]; omega)
  omega

/-! ### toSpan -/
/-- The same fields, of the other type. -/
def cv_span (x : S66) : S64 := ⟨x.f0, x.f1⟩
theorem rdl_span (l : List S66) (j : Nat) (h : j < l.length) : rd_T66 l (j : Int) = l[j] := by
  simp [rd_T66, h]
theorem to_set_span (l : List S66) (j : Nat) (h : j < l.length) : ((l.take j).map cv_span ++ List.replicate (l.length - j) z64).set j (cv_span l[j]) = (l.take (j + 1)).map cv_span ++ List.replicate (l.length - (j + 1)) z64 := by
  obtain ⟨m, hm⟩ : ∃ m, l.length - j = m + 1 := ⟨l.length - j - 1, by omega⟩
  have hl : ((l.take j).map cv_span).length = j := by simp; omega
  rw [List.set_append_right _ _ (by omega), hl, Nat.sub_self, hm, List.replicate_succ, List.set_cons_zero, List.take_succ_eq_append_getElem h, show l.length - (j + 1) = m by omega, List.map_append, List.append_assoc]
  rfl
theorem to_loop_span (l : List S66) (hl : l.length ≤ 1048576) : ∀ (d k j : Nat), j + d = l.length → d < k →
    laws_toSpanS.l0 k l ((l.take j).map cv_span ++ List.replicate (l.length - j) z64) (j : Int) = some (l.map cv_span)
  | 0, k, j, hj, hk => by
    obtain ⟨k, rfl⟩ : ∃ r, k = r + 1 := ⟨k - 1, by omega⟩
    obtain rfl : j = l.length := by omega
    simp only [laws_toSpanS.l0]
    rw [if_neg (by omega)]
    simp
  | d + 1, k, j, hj, hk => by
    obtain ⟨k, rfl⟩ : ∃ r, k = r + 1 := ⟨k - 1, by omega⟩
    have e : wrap64 ((j : Int) + 1) = ((j + 1 : Nat) : Int) := by rw [w_ _ (by omega) (by omega)]; omega
    have t : ((j : Int)).toNat = j := by omega
    have s := to_set_span l j (by omega)
    simp only [laws_toSpanS.l0, laws_toSpan.f, Option.bind_some]
    rw [if_pos (by omega), if_pos (by omega), if_pos (by simp; omega), t, rdl_span l j (by omega), e]
    simp only [cv_span] at s
    rw [s]
    exact to_loop_span l hl d k (j + 1) (by omega) (by omega)
theorem to_span (l : List S66) (hl : l.length ≤ 1048576) (k : Nat) (hk : l.length < k) : laws_toSpanS.f k l = some (l.map cv_span) := by
  unfold laws_toSpanS.f
  have h := to_loop_span l hl l.length k 0 (by omega) hk
  rw [if_pos (by omega), if_pos (by omega)]
  simpa using h
theorem sz_span (l : List S66) (hl : l.length ≤ maxLen) : laws_szSpanS.f l 1048576 = some (if l.length ≤ 1048576 then (1048576 : Int) - l.length else -1) := by
  unfold maxLen at hl
  unfold laws_szSpanS.f
  rw [w_ _ (by omega) (by omega)]
  by_cases h : l.length ≤ 1048576
  · rw [if_neg (by omega), if_pos h]
  · rw [if_pos (by omega), if_neg h]

/-! ### eqSpan -/
theorem eq_loop_span (l : List S64) (hl : l.length ≤ 1048576) : ∀ (d k j : Nat), j + d = l.length → d < k → laws_eqSpanS.l0 k l l (j : Int) = some true
  | 0, k, j, hj, hk => by
    obtain ⟨k, rfl⟩ : ∃ r, k = r + 1 := ⟨k - 1, by omega⟩
    simp only [laws_eqSpanS.l0]
    rw [if_neg (by omega)]
  | d + 1, k, j, hj, hk => by
    obtain ⟨k, rfl⟩ : ∃ r, k = r + 1 := ⟨k - 1, by omega⟩
    have e : wrap64 ((j : Int) + 1) = ((j + 1 : Nat) : Int) := by rw [w_ _ (by omega) (by omega)]; omega
    simp only [laws_eqSpanS.l0, laws_eqSpan.f, if_true, Option.bind_some]
    rw [if_pos (by omega), if_pos (by omega), if_pos (by omega), e]
    exact eq_loop_span l hl d k (j + 1) (by omega) (by omega)
theorem eq_span (l : List S64) (hl : l.length ≤ 1048576) (k : Nat) (hk : l.length < k) : laws_eqSpanS.f k l l = some true := by
  unfold laws_eqSpanS.f
  rw [if_pos rfl]
  exact eq_loop_span l hl l.length k 0 (by omega) hk

/-! ### sval -/
theorem k_min (a : Int) (b : Int) : spec_l4Span.f a b = some (decide ((0 ≤ a ∧ a ≤ 1439) ∧ (a + 1 ≤ b ∧ b ≤ 1440))) := by
  unfold spec_l4Span.f
  rw [k_in]
  by_cases h : 0 ≤ a ∧ a ≤ 1439
  · rw [w_ (a + 1) (by omega) (by omega), k_in]
    simp [h]
  · simp [h]
theorem i_min (a : Int) (b : Int) : impl_spanValid.f a b = some (decide ((0 ≤ a ∧ a ≤ 1439) ∧ (a + 1 ≤ b ∧ b ≤ 1440))) := by
  unfold impl_spanValid.f impl_isMinute.f
  rw [i_in]
  by_cases h : 0 ≤ a ∧ a ≤ 1439
  · rw [w_ (a + 1) (by omega) (by omega), i_in]
    simp [h]
  · simp [h]
/-- A span is valid. -/
def okS (s : S64) : Bool := decide ((0 ≤ s.f0 ∧ s.f0 ≤ 1439) ∧ (s.f0 + 1 ≤ s.f1 ∧ s.f1 ≤ 1440))
/-- Spans are valid. -/
def SV (l : List S64) : Bool := l.all okS && decide ((l.length : Int) ≤ 10)
theorem rd_sp (l : List S64) (j : Nat) (h : j < l.length) : rd_T64 l (j : Int) = l[j] := by
  simp [rd_T64, h]
theorem all_drop (l : List S64) (p : S64 → Bool) (j : Nat) (h : j < l.length) : (l.drop j).all p = (p l[j] && (l.drop (j + 1)).all p) := by
  rw [List.drop_eq_getElem_cons h, List.all_cons]
theorem ksv_loop (l : List S64) (hl : l.length ≤ 1048576) : ∀ (d k j : Nat), j + d = l.length → d < k →
    spec_SpansValid.l0 k l (j : Int) = some ((l.drop j).all okS && decide ((l.length : Int) ≤ 10))
  | 0, k, j, hj, hk => by
    obtain ⟨k, rfl⟩ : ∃ r, k = r + 1 := ⟨k - 1, by omega⟩
    obtain rfl : j = l.length := by omega
    simp only [spec_SpansValid.l0]
    rw [if_neg (by omega)]
    simp
  | d + 1, k, j, hj, hk => by
    obtain ⟨k, rfl⟩ : ∃ r, k = r + 1 := ⟨k - 1, by omega⟩
    have e : wrap64 ((j : Int) + 1) = ((j + 1 : Nat) : Int) := by rw [w_ _ (by omega) (by omega)]; omega
    simp only [spec_SpansValid.l0]
    rw [if_pos (by omega), if_pos (by omega), rd_sp l j (by omega), k_min, e, all_drop l okS j (by omega)]
    simp only [Option.bind_some]
    by_cases c : okS l[j] = true
    · rw [c, show decide _ = true from c, if_pos rfl, Bool.true_and]
      exact ksv_loop l hl d k (j + 1) (by omega) (by omega)
    · have c' := Bool.eq_false_iff.mpr c
      rw [c', show decide _ = false from c']
      simp
theorem isv_loop (l : List S64) (hl : l.length ≤ 1048576) : ∀ (d k j : Nat), j + d = l.length → d < k →
    impl_SpansValid.l0 k l l (l.length : Int) (j : Int) = some ((l.drop j).all okS && decide ((l.length : Int) ≤ 10))
  | 0, k, j, hj, hk => by
    obtain ⟨k, rfl⟩ : ∃ r, k = r + 1 := ⟨k - 1, by omega⟩
    obtain rfl : j = l.length := by omega
    simp only [impl_SpansValid.l0]
    rw [if_neg (by omega)]
    simp
  | d + 1, k, j, hj, hk => by
    obtain ⟨k, rfl⟩ : ∃ r, k = r + 1 := ⟨k - 1, by omega⟩
    have e : wrap64 ((j : Int) + 1) = ((j + 1 : Nat) : Int) := by rw [w_ _ (by omega) (by omega)]; omega
    simp only [impl_SpansValid.l0]
    rw [if_pos (by omega), if_pos (by omega), if_pos (by omega), rd_sp l j (by omega), i_min, e, all_drop l okS j (by omega)]
    simp only [Option.bind_some]
    by_cases c : okS l[j] = true
    · rw [c, show decide _ = true from c, if_pos rfl, Bool.true_and]
      exact isv_loop l hl d k (j + 1) (by omega) (by omega)
    · have c' := Bool.eq_false_iff.mpr c
      rw [c', show decide _ = false from c']
      simp
theorem k_sv (l : List S64) (hl : l.length ≤ 1048576) (k : Nat) (hk : l.length < k) : spec_SpansValid.f k l = some (SV l) :=
  ksv_loop l hl l.length k 0 (by omega) hk
theorem i_sv (l : List S64) (hl : l.length ≤ 1048576) (k : Nat) (hk : l.length < k) : impl_SpansValid.f k l = some (SV l) :=
  isv_loop l hl l.length k 0 (by omega) hk

theorem FnExactSpansValid (l : List S66) (hl : l.length ≤ maxLen) : ∃ k, laws_FnExactSpansValid.f k l = some true := by
  by_cases c : l.length ≤ 1048576
  · refine ⟨l.length + 1, ?_⟩
    unfold laws_FnExactSpansValid.f
    rw [sz_span l hl, if_pos c]
    simp only [Option.bind_some]
    rw [if_neg (by omega), to_span l c _ (by omega)]
    simp only [Option.bind_some]
    rw [k_sv _ (by simpa using c) _ (by simp), i_sv _ (by simpa using c) _ (by simp)]
    simp only [Option.bind_some]
    rw [eq_span _ (by simpa using c) _ (by simp)]
    simp
  · refine ⟨1, ?_⟩
    unfold laws_FnExactSpansValid.f
    rw [sz_span l hl, if_neg c]
    simp

end Go.Proofs.Ytkjkapmjhafimaa.Pure
