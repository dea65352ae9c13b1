/- FnExactFoodsValid answers true at every list of foods. -/
import Derived.Test.YtpcclmgcnomgeaaQFnExactFoodsValid
namespace Go.Proofs.Ytpcclmgcnomgeaa.Pure
open Go.RowKit Go.Proofs.Ytpcclmgcnomgeaa.PFnExactFoodsValid Go.Proofs.YtpcclmgcnomgeaaW.PrintWords Go.Proofs.YtpcclmgcnomgeaaW.PrintLast
set_option linter.unusedSimpArgs false
set_option linter.unusedVariables false

/-! ### core -/
theorem k_in (a b c : Int) : spec_l6In.f a b c = some (decide (b ≤ a ∧ a ≤ c)) := by
  unfold spec_l6In.f
  by_cases h : b ≤ a <;> simp [h]
theorem i_in (a b c : Int) : impl_within.f a b c = some (decide (b ≤ a ∧ a ≤ c)) := by
  unfold impl_within.f
  by_cases h : b ≤ a <;> simp [h]
theorem w_ (n : Int) (h : -9223372036854775808 ≤ n) (h' : n ≤ 9223372036854775807) : wrap64 n = n := by unfold wrap64; omega
theorem div_low (a b : Int) (hb : 0 < b) : (a / b) * b ≤ a := Int.ediv_mul_le a (by omega)
theorem div_high (a b : Int) (hb : 0 < b) : a < (a / b) * b + b := by
  have h := Int.lt_ediv_add_one_mul_self a hb
  rw [Int.add_mul] at h
  omega
theorem div_is (a b q : Int) (hb : 0 < b) (h1 : q * b ≤ a) (h2 : a < q * b + b) : a / b = q := by
  have h3 := Int.le_ediv_of_mul_le hb h1
  have h4 : a / b < q + 1 := Int.ediv_lt_of_lt_mul hb (by rw [Int.add_mul]; omega)
  omega

/-! ### toFood -/
/-- The same fields, of the other type. -/
def cv_food (x : S56) : S41 := ⟨x.f0, x.f1, x.f2, x.f3, x.f4, x.f5⟩
theorem rdl_food (l : List S56) (j : Nat) (h : j < l.length) : rd_T56 l (j : Int) = l[j] := by
  simp [rd_T56, h]
theorem to_set_food (l : List S56) (j : Nat) (h : j < l.length) : ((l.take j).map cv_food ++ List.replicate (l.length - j) z41).set j (cv_food l[j]) = (l.take (j + 1)).map cv_food ++ List.replicate (l.length - (j + 1)) z41 := by
  obtain ⟨m, hm⟩ : ∃ m, l.length - j = m + 1 := ⟨l.length - j - 1, by omega⟩
  have hl : ((l.take j).map cv_food).length = j := by simp; omega
  rw [List.set_append_right _ _ (by omega), hl, Nat.sub_self, hm, List.replicate_succ, List.set_cons_zero, List.take_succ_eq_append_getElem h, show l.length - (j + 1) = m by omega, List.map_append, List.append_assoc]
  rfl
theorem to_loop_food (l : List S56) (hl : l.length ≤ 1048576) : ∀ (d k j : Nat), j + d = l.length → d < k →
    laws_toFoodS.l0 k l ((l.take j).map cv_food ++ List.replicate (l.length - j) z41) (j : Int) = some (l.map cv_food)
  | 0, k, j, hj, hk => by
    obtain ⟨k, rfl⟩ : ∃ r, k = r + 1 := ⟨k - 1, by omega⟩
    obtain rfl : j = l.length := by omega
    simp only [laws_toFoodS.l0]
    rw [if_neg (by omega)]
    simp
  | d + 1, k, j, hj, hk => by
    obtain ⟨k, rfl⟩ : ∃ r, k = r + 1 := ⟨k - 1, by omega⟩
    have e : wrap64 ((j : Int) + 1) = ((j + 1 : Nat) : Int) := by rw [w_ _ (by omega) (by omega)]; omega
    have t : ((j : Int)).toNat = j := by omega
    have s := to_set_food l j (by omega)
    simp only [laws_toFoodS.l0, laws_toFood.f, Option.bind_some]
    rw [if_pos (by omega), if_pos (by omega), if_pos (by simp; omega), t, rdl_food l j (by omega), e]
    simp only [cv_food] at s
    rw [s]
    exact to_loop_food l hl d k (j + 1) (by omega) (by omega)
theorem to_food (l : List S56) (hl : l.length ≤ 1048576) (k : Nat) (hk : l.length < k) : laws_toFoodS.f k l = some (l.map cv_food) := by
  unfold laws_toFoodS.f
  have h := to_loop_food l hl l.length k 0 (by omega) hk
  rw [if_pos (by omega), if_pos (by omega)]
  simpa using h
theorem sz_food (l : List S56) (hl : l.length ≤ maxLen) : laws_szFoodS.f l 1048576 = some (if l.length ≤ 1048576 then (1048576 : Int) - l.length else -1) := by
  unfold maxLen at hl
  unfold laws_szFoodS.f
  rw [w_ _ (by omega) (by omega)]
  by_cases h : l.length ≤ 1048576
  · rw [if_neg (by omega), if_pos h]
  · rw [if_pos (by omega), if_neg h]

/-! ### eqFood -/
theorem eq_loop_food (l : List S41) (hl : l.length ≤ 1048576) : ∀ (d k j : Nat), j + d = l.length → d < k → laws_eqFoodS.l0 k l l (j : Int) = some true
  | 0, k, j, hj, hk => by
    obtain ⟨k, rfl⟩ : ∃ r, k = r + 1 := ⟨k - 1, by omega⟩
    simp only [laws_eqFoodS.l0]
    rw [if_neg (by omega)]
  | d + 1, k, j, hj, hk => by
    obtain ⟨k, rfl⟩ : ∃ r, k = r + 1 := ⟨k - 1, by omega⟩
    have e : wrap64 ((j : Int) + 1) = ((j + 1 : Nat) : Int) := by rw [w_ _ (by omega) (by omega)]; omega
    simp only [laws_eqFoodS.l0, laws_eqFood.f, if_true, Option.bind_some]
    rw [if_pos (by omega), if_pos (by omega), if_pos (by omega), e]
    exact eq_loop_food l hl d k (j + 1) (by omega) (by omega)
theorem eq_food (l : List S41) (hl : l.length ≤ 1048576) (k : Nat) (hk : l.length < k) : laws_eqFoodS.f k l l = some true := by
  unfold laws_eqFoodS.f
  rw [if_pos rfl]
  exact eq_loop_food l hl l.length k 0 (by omega) hk

/-! ### fvdef -/
/-- The fields of a food are in their ranges. -/
def okF (s : S41) : Bool :=
  decide (1 ≤ s.f0 ∧ s.f0 ≤ 20) && (decide (1 ≤ s.f1 ∧ s.f1 ≤ 3) && (decide (0 ≤ s.f2 ∧ s.f2 ≤ 255) && (decide (1 ≤ s.f3 ∧ s.f3 ≤ 5) && (decide (0 ≤ s.f4 ∧ s.f4 ≤ 999) && decide (0 ≤ s.f5 ∧ s.f5 ≤ 999)))))
/-- Food j's number is greater than that of the food before it. -/
def ascF (l : List S41) (j : Nat) : Bool := decide (j = 0) || !decide ((rd_T41 l ((j - 1 : Nat) : Int)).f0 ≥ (rd_T41 l (j : Int)).f0)
/-- The foods from j on (d of them) are valid. -/
def FVf (l : List S41) : Nat → Nat → Bool
  | _, 0 => decide ((l.length : Int) ≤ 6)
  | j, d + 1 => okF (rd_T41 l (j : Int)) && (ascF l j && FVf l (j + 1) d)
/-- Foods are valid. -/
def FV (l : List S41) : Bool := FVf l 0 l.length

/-! ### kset -/
theorem k_set (a : Int) : spec_l3Set.f a = some (decide (0 ≤ a ∧ a ≤ 255)) := by
  unfold spec_l3Set.f
  rw [k_in]; rfl

/-! ### fval -/
theorem fj (k : Nat) (l : List S41) (hl : l.length ≤ 1048576) (j d : Nat) (hj : j < l.length) (b : Bool) (h : spec_FoodsValid.l0 k l ((j + 1 : Nat) : Int) = some (FVf l (j + 1) d)) (a1 a2 a3 a4 a5 : Int) :
    spec_FoodsValid.j1 (k + 1) l (j : Int) b (rd_T41 l (j : Int)).f0 a1 a2 a3 a4 a5 = some (!b && (ascF l j && FVf l (j + 1) d)) := by
  have e : wrap64 ((j : Int) + 1) = ((j + 1 : Nat) : Int) := by rw [w_ _ (by omega) (by omega)]; omega
  simp only [spec_FoodsValid.j1]
  cases b with
  | true => simp
  | false =>
    rw [if_neg (by simp), e, h]
    unfold ascF
    by_cases c : j = 0
    · rw [if_neg (by omega)]; simp [c]
    · have e' : wrap64 ((j : Int) - 1) = ((j - 1 : Nat) : Int) := by rw [w_ _ (by omega) (by omega)]; omega
      rw [if_pos (by omega), e', if_pos (by omega), if_pos (by omega)]
      by_cases g : (rd_T41 l ((j - 1 : Nat) : Int)).f0 ≥ (rd_T41 l (j : Int)).f0
      · rw [if_pos g, decide_eq_true g]; simp [c]
      · rw [if_neg g, decide_eq_false g]; simp [c]
theorem kfv_loop (l : List S41) (hl : l.length ≤ 1048576) : ∀ (d k j : Nat), j + d = l.length → 2 * d < k → spec_FoodsValid.l0 k l (j : Int) = some (FVf l j d)
  | 0, k, j, hj, hk => by
    obtain ⟨k, rfl⟩ : ∃ r, k = r + 1 := ⟨k - 1, by omega⟩
    simp only [spec_FoodsValid.l0]
    rw [if_neg (by omega)]
    rfl
  | d + 1, k, j, hj, hk => by
    obtain ⟨k, rfl⟩ : ∃ r, k = r + 1 + 1 := ⟨k - 2, by omega⟩
    have r := kfv_loop l hl d k (j + 1) (by omega) (by omega)
    have J := fun b a1 a2 a3 a4 a5 => fj k l hl j d (by omega) b r a1 a2 a3 a4 a5
    simp only [spec_FoodsValid.l0, k_in, k_set, Option.bind_some]
    rw [if_pos (by omega), if_pos (by omega)]
    simp only [J]
    simp only [FVf, okF]
    generalize decide (1 ≤ (rd_T41 l (j : Int)).f0 ∧ (rd_T41 l (j : Int)).f0 ≤ 20) = b0
    generalize decide (1 ≤ (rd_T41 l (j : Int)).f1 ∧ (rd_T41 l (j : Int)).f1 ≤ 3) = b1
    generalize decide (0 ≤ (rd_T41 l (j : Int)).f2 ∧ (rd_T41 l (j : Int)).f2 ≤ 255) = b2
    generalize decide (1 ≤ (rd_T41 l (j : Int)).f3 ∧ (rd_T41 l (j : Int)).f3 ≤ 5) = b3
    generalize decide (0 ≤ (rd_T41 l (j : Int)).f4 ∧ (rd_T41 l (j : Int)).f4 ≤ 999) = b4
    generalize decide (0 ≤ (rd_T41 l (j : Int)).f5 ∧ (rd_T41 l (j : Int)).f5 ≤ 999) = b5
    generalize (ascF l j && FVf l (j + 1) d) = R
    cases b0 <;> cases b1 <;> cases b2 <;> cases b3 <;> cases b4 <;> cases b5 <;> rfl
theorem k_fv (l : List S41) (hl : l.length ≤ 1048576) (k : Nat) (hk : 2 * l.length < k) : spec_FoodsValid.f k l = some (FV l) :=
  kfv_loop l hl l.length k 0 (by omega) hk

/-! ### iset -/
theorem i_set (a : Int) : impl_isSet.f a = some (decide (0 ≤ a ∧ a ≤ 255)) := by
  unfold impl_isSet.f
  rw [i_in]; rfl

/-! ### fvali -/
theorem tailF (k : Nat) (l : List S41) (hl : l.length ≤ 1048576) (j d : Nat) (hj : j < l.length) (h : impl_FoodsValid.l0 k l l (l.length : Int) ((j + 1 : Nat) : Int) = some (FVf l (j + 1) d)) :
    (if (j : Int) > 0 then (if 0 ≤ (wrap64 ((j : Int) - 1)) then (if (wrap64 ((j : Int) - 1)) < (l.length : Int) then (if ((rd_T41 l (wrap64 ((j : Int) - 1))).f0) ≥ ((rd_T41 l (j : Int)).f0) then (some false) else (impl_FoodsValid.l0 k l l (l.length : Int) (wrap64 ((j : Int) + 1)))) else (none)) else (none)) else (impl_FoodsValid.l0 k l l (l.length : Int) (wrap64 ((j : Int) + 1)))) = some (ascF l j && FVf l (j + 1) d) := by
  have e : wrap64 ((j : Int) + 1) = ((j + 1 : Nat) : Int) := by rw [w_ _ (by omega) (by omega)]; omega
  rw [e, h]
  unfold ascF
  by_cases c : j = 0
  · rw [if_neg (by omega)]; simp [c]
  · have e' : wrap64 ((j : Int) - 1) = ((j - 1 : Nat) : Int) := by rw [w_ _ (by omega) (by omega)]; omega
    rw [if_pos (by omega), e', if_pos (by omega), if_pos (by omega)]
    by_cases g : (rd_T41 l ((j - 1 : Nat) : Int)).f0 ≥ (rd_T41 l (j : Int)).f0
    · rw [if_pos g, decide_eq_true g]; simp [c]
    · rw [if_neg g, decide_eq_false g]; simp [c]
theorem ifv_loop (l : List S41) (hl : l.length ≤ 1048576) : ∀ (d k j : Nat), j + d = l.length → d < k → impl_FoodsValid.l0 k l l (l.length : Int) (j : Int) = some (FVf l j d)
  | 0, k, j, hj, hk => by
    obtain ⟨k, rfl⟩ : ∃ r, k = r + 1 := ⟨k - 1, by omega⟩
    simp only [impl_FoodsValid.l0]
    rw [if_neg (by omega)]
    rfl
  | d + 1, k, j, hj, hk => by
    obtain ⟨k, rfl⟩ : ∃ r, k = r + 1 := ⟨k - 1, by omega⟩
    have r := ifv_loop l hl d k (j + 1) (by omega) (by omega)
    have J := tailF k l hl j d (by omega) r
    simp only [impl_FoodsValid.l0, impl_isId.f, impl_isKind.f, i_in, i_set, Option.bind_some]
    rw [if_pos (by omega), if_pos (by omega), if_pos (by omega), J]
    simp only [FVf, okF]
    generalize decide (1 ≤ (rd_T41 l (j : Int)).f0 ∧ (rd_T41 l (j : Int)).f0 ≤ 20) = b0
    generalize decide (1 ≤ (rd_T41 l (j : Int)).f1 ∧ (rd_T41 l (j : Int)).f1 ≤ 3) = b1
    generalize decide (0 ≤ (rd_T41 l (j : Int)).f2 ∧ (rd_T41 l (j : Int)).f2 ≤ 255) = b2
    generalize decide (1 ≤ (rd_T41 l (j : Int)).f3 ∧ (rd_T41 l (j : Int)).f3 ≤ 5) = b3
    generalize decide (0 ≤ (rd_T41 l (j : Int)).f4 ∧ (rd_T41 l (j : Int)).f4 ≤ 999) = b4
    generalize decide (0 ≤ (rd_T41 l (j : Int)).f5 ∧ (rd_T41 l (j : Int)).f5 ≤ 999) = b5
    generalize (ascF l j && FVf l (j + 1) d) = R
    cases b0 <;> cases b1 <;> cases b2 <;> cases b3 <;> cases b4 <;> cases b5 <;> rfl
theorem i_fv (l : List S41) (hl : l.length ≤ 1048576) (k : Nat) (hk : l.length < k) : impl_FoodsValid.f k l = some (FV l) :=
  ifv_loop l hl l.length k 0 (by omega) hk

theorem FnExactFoodsValid (l : List S56) (hl : l.length ≤ maxLen) : ∃ k, laws_FnExactFoodsValid.f k l = some true := by
  by_cases c : l.length ≤ 1048576
  · refine ⟨2 * l.length + 1, ?_⟩
    unfold laws_FnExactFoodsValid.f
    rw [sz_food l hl, if_pos c]
    simp only [Option.bind_some]
    rw [if_neg (by omega), to_food l c _ (by omega)]
    simp only [Option.bind_some]
    rw [k_fv _ (by simpa using c) _ (by simp), i_fv _ (by simpa using c) _ (by simp; omega)]
    simp only [Option.bind_some]
    rw [eq_food _ (by simpa using c) _ (by simp; omega)]
    simp
  · refine ⟨1, ?_⟩
    unfold laws_FnExactFoodsValid.f
    rw [sz_food l hl, if_neg c]
    simp

end Go.Proofs.Ytpcclmgcnomgeaa.Pure
