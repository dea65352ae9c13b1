/- FnExactFoodsHarm answers true at every list of foods and every integer. -/
import Derived.Test.YtmdcfgcbiegofaaQFnExactFoodsHarm
import Derived.Laws.BitsLemmas
namespace Go.Proofs.Ytmdcfgcbiegofaa.Pure
open Go.RowKit Go.Proofs.Ytmdcfgcbiegofaa.PFnExactFoodsHarm Go.Proofs.YtmdcfgcbiegofaaW.PrintWords Go.Proofs.YtmdcfgcbiegofaaW.PrintLast
set_option linter.unusedSimpArgs false
set_option linter.unusedVariables false

/-! ### core -/
theorem k_in (a b c : Int) : spec_l6In.f a b c = some (decide (b ≤ a ∧ a ≤ c)) := by
  unfold spec_l6In.f
  by_cases h : b ≤ a <;> simp [h]
theorem i_in (a b c : Int) : impl_within.f a b c = some (decide (b ≤ a ∧ a ≤ c)) := by
  unfold impl_within.f
  by_cases h : b ≤ a <;> simp [h]
theorem w_ (n : Int) (h : -9223372036854775808 ≤ n) (h' : n ≤ 9223372036854775807) : wrap64 n = n := by unfold wrap64; omega
theorem div_low (a b : Int) (hb : 0 < b) : (a / b) * b ≤ a := Int.ediv_mul_le a (by omega)
theorem div_high (a b : Int) (hb : 0 < b) : a < (a / b) * b + b := by
  have h := Int.lt_ediv_add_one_mul_self a hb
  rw [Int.add_mul] at h
  omega
theorem div_is (a b q : Int) (hb : 0 < b) (h1 : q * b ≤ a) (h2 : a < q * b + b) : a / b = q := by
  have h3 := Int.le_ediv_of_mul_le hb h1
  have h4 : a / b < q + 1 := Int.ediv_lt_of_lt_mul hb (by rw [Int.add_mul]; omega)
  omega

/-! ### toFood -/
/-- The same fields, of the other type. -/
def cv_food (x : S50) : S34 := ⟨x.f0, x.f1, x.f2, x.f3, x.f4, x.f5⟩
theorem rdl_food (l : List S50) (j : Nat) (h : j < l.length) : rd_T50 l (j : Int) = l[j] := by
  simp [rd_T50, h]
theorem to_set_food (l : List S50) (j : Nat) (h : j < l.length) : ((l.take j).map cv_food ++ List.replicate (l.length - j) z34).set j (cv_food l[j]) = (l.take (j + 1)).map cv_food ++ List.replicate (l.length - (j + 1)) z34 := by
  obtain ⟨m, hm⟩ : ∃ m, l.length - j = m + 1 := ⟨l.length - j - 1, by omega⟩
  have hl : ((l.take j).map cv_food).length = j := by simp; omega
  rw [List.set_append_right _ _ (by omega), hl, Nat.sub_self, hm, List.replicate_succ, List.set_cons_zero, List.take_succ_eq_append_getElem h, show l.length - (j + 1) = m by omega, List.map_append, List.append_assoc]
  rfl
theorem to_loop_food (l : List S50) (hl : l.length ≤ 1048576) : ∀ (d k j : Nat), j + d = l.length → d < k →
    laws_toFoodS.l0 k l ((l.take j).map cv_food ++ List.replicate (l.length - j) z34) (j : Int) = some (l.map cv_food)
  | 0, k, j, hj, hk => by
    obtain ⟨k, rfl⟩ : ∃ r, k = r + 1 := ⟨k - 1, by omega⟩
    obtain rfl : j = l.length := by omega
    simp only [laws_toFoodS.l0]
    rw [if_neg (by omega)]
    simp
  | d + 1, k, j, hj, hk => by
    obtain ⟨k, rfl⟩ : ∃ r, k = r + 1 := ⟨k - 1, by omega⟩
    have e : wrap64 ((j : Int) + 1) = ((j + 1 : Nat) : Int) := by rw [w_ _ (by omega) (by omega)]; omega
    have t : ((j : Int)).toNat = j := by omega
    have s := to_set_food l j (by omega)
    simp only [laws_toFoodS.l0, laws_toFood.f, Option.bind_some]
    rw [if_pos (by omega), if_pos (by omega), if_pos (by simp; omega), t, rdl_food l j (by omega), e]
    simp only [cv_food] at s
    rw [s]
    exact to_loop_food l hl d k (j + 1) (by omega) (by omega)
theorem to_food (l : List S50) (hl : l.length ≤ 1048576) (k : Nat) (hk : l.length < k) : laws_toFoodS.f k l = some (l.map cv_food) := by
  unfold laws_toFoodS.f
  have h := to_loop_food l hl l.length k 0 (by omega) hk
  rw [if_pos (by omega), if_pos (by omega)]
  simpa using h
theorem sz_food (l : List S50) (hl : l.length ≤ maxLen) : laws_szFoodS.f l 1048576 = some (if l.length ≤ 1048576 then (1048576 : Int) - l.length else -1) := by
  unfold maxLen at hl
  unfold laws_szFoodS.f
  rw [w_ _ (by omega) (by omega)]
  by_cases h : l.length ≤ 1048576
  · rw [if_neg (by omega), if_pos h]
  · rw [if_pos (by omega), if_neg h]

/-! ### eqFood -/
theorem eq_loop_food (l : List S34) (hl : l.length ≤ 1048576) : ∀ (d k j : Nat), j + d = l.length → d < k → laws_eqFoodS.l0 k l l (j : Int) = some true
  | 0, k, j, hj, hk => by
    obtain ⟨k, rfl⟩ : ∃ r, k = r + 1 := ⟨k - 1, by omega⟩
    simp only [laws_eqFoodS.l0]
    rw [if_neg (by omega)]
  | d + 1, k, j, hj, hk => by
    obtain ⟨k, rfl⟩ : ∃ r, k = r + 1 := ⟨k - 1, by omega⟩
    have e : wrap64 ((j : Int) + 1) = ((j + 1 : Nat) : Int) := by rw [w_ _ (by omega) (by omega)]; omega
    simp only [laws_eqFoodS.l0, laws_eqFood.f, if_true, Option.bind_some]
    rw [if_pos (by omega), if_pos (by omega), if_pos (by omega), e]
    exact eq_loop_food l hl d k (j + 1) (by omega) (by omega)
theorem eq_food (l : List S34) (hl : l.length ≤ 1048576) (k : Nat) (hk : l.length < k) : laws_eqFoodS.f k l l = some true := by
  unfold laws_eqFoodS.f
  rw [if_pos rfl]
  exact eq_loop_food l hl l.length k 0 (by omega) hk

/-! ### fvdef -/
/-- The fields of a food are in their ranges. -/
def okF (s : S34) : Bool :=
  decide (1 ≤ s.f0 ∧ s.f0 ≤ 20) && (decide (1 ≤ s.f1 ∧ s.f1 ≤ 3) && (decide (0 ≤ s.f2 ∧ s.f2 ≤ 255) && (decide (1 ≤ s.f3 ∧ s.f3 ≤ 5) && (decide (0 ≤ s.f4 ∧ s.f4 ≤ 999) && decide (0 ≤ s.f5 ∧ s.f5 ≤ 999)))))
/-- Food j's number is greater than that of the food before it. -/
def ascF (l : List S34) (j : Nat) : Bool := decide (j = 0) || !decide ((rd_T34 l ((j - 1 : Nat) : Int)).f0 ≥ (rd_T34 l (j : Int)).f0)
/-- The foods from j on (d of them) are valid. -/
def FVf (l : List S34) : Nat → Nat → Bool
  | _, 0 => decide ((l.length : Int) ≤ 6)
  | j, d + 1 => okF (rd_T34 l (j : Int)) && (ascF l j && FVf l (j + 1) d)
/-- Foods are valid. -/
def FV (l : List S34) : Bool := FVf l 0 l.length

/-! ### fvfacts -/
theorem fvf_iff (l : List S34) : ∀ (d j : Nat), FVf l j d = true ↔ (∀ i, j ≤ i → i < j + d → okF (rd_T34 l (i : Int)) = true ∧ ascF l i = true) ∧ (l.length : Int) ≤ 6
  | 0, j => by
    simp only [FVf, decide_eq_true_eq]
    exact ⟨fun h => ⟨fun i _ _ => by omega, h⟩, fun h => h.2⟩
  | d + 1, j => by
    simp only [FVf, Bool.and_eq_true, fvf_iff l d (j + 1)]
    constructor
    · rintro ⟨a, b, c, e⟩
      refine ⟨fun i h1 h2 => ?_, e⟩
      by_cases g : i = j
      · subst g; exact ⟨a, b⟩
      · exact c i (by omega) (by omega)
    · rintro ⟨a, b⟩
      exact ⟨(a j (by omega) (by omega)).1, (a j (by omega) (by omega)).2, fun i h1 h2 => a i (by omega) (by omega), b⟩
theorem fv_iff (l : List S34) : FV l = true ↔ (∀ i, i < l.length → okF (rd_T34 l (i : Int)) = true ∧ (i = 0 ∨ (rd_T34 l ((i - 1 : Nat) : Int)).f0 < (rd_T34 l (i : Int)).f0)) ∧ l.length ≤ 6 := by
  unfold FV
  rw [fvf_iff]
  have asc : ∀ i, ascF l i = true ↔ (i = 0 ∨ (rd_T34 l ((i - 1 : Nat) : Int)).f0 < (rd_T34 l (i : Int)).f0) := by
    intro i
    simp [ascF]
  constructor
  · rintro ⟨a, b⟩
    exact ⟨fun i h => ⟨(a i (by omega) (by omega)).1, (asc i).1 (a i (by omega) (by omega)).2⟩, by omega⟩
  · rintro ⟨a, b⟩
    exact ⟨fun i _ h => ⟨(a i (by omega)).1, (asc i).2 (a i (by omega)).2⟩, by omega⟩
theorem rd_fd (l : List S34) (j : Nat) : rd_T34 l (j : Int) = (l[j]?).getD z34 := by
  simp [rd_T34, List.getD_eq_getElem?_getD]

/-! ### bitops -/
theorem wraps_i64 (n : Int) (h0 : 0 ≤ n) (h1 : n < 2 ^ 8) : IntKind.i64.wrap n = n := by rw [Go.IntKind.wrap_i64]; omega
theorem or_nat (x y : Nat) (hx : x ≤ 255) (hy : y ≤ 255) : Go.bits .or .i64 (x : Int) (y : Int) = ((x ||| y : Nat) : Int) :=
  (Go.bits_nat .i64 8 (by decide) wraps_i64 x y (by omega) (by omega)).2
theorem and_nat (x y : Nat) (hx : x ≤ 255) (hy : y ≤ 255) : Go.bits .and .i64 (x : Int) (y : Int) = ((x &&& y : Nat) : Int) :=
  (Go.bits_nat .i64 8 (by decide) wraps_i64 x y (by omega) (by omega)).1

/-! ### harmdef -/
/-- Food i has an allergen of set x. -/
def hit (l : List S34) (x i : Nat) : Bool := decide (¬ (rd_T34 l (i : Int)).f2.toNat &&& x = 0)
/-- The numbers of those of the first c foods that have an allergen of set x. -/
def HL (l : List S34) (x c : Nat) : List Int := ((List.range c).filter (hit l x)).map fun (i : Nat) => (rd_T34 l (i : Int)).f0
/-- The foods that have an allergen of a set; none where an argument is invalid. -/
def FH (l : List S34) (a : Int) : List Int := if FV l = true ∧ (0 ≤ a ∧ a ≤ 255) then HL l a.toNat l.length else []
theorem hl_yes (l : List S34) (x c : Nat) (h : hit l x c = true) : HL l x (c + 1) = HL l x c ++ [(rd_T34 l (c : Int)).f0] := by
  simp [HL, List.range_succ, List.filter_append, h]
theorem hl_no (l : List S34) (x c : Nat) (h : hit l x c = false) : HL l x (c + 1) = HL l x c := by
  simp [HL, List.range_succ, List.filter_append, h]
theorem hl_zero (l : List S34) (x : Nat) : HL l x 0 = [] := by simp [HL]
theorem hl_length (l : List S34) (x c : Nat) : (HL l x c).length ≤ c := by
  have := List.length_filter_le (hit l x) (List.range c)
  simp [HL] at this ⊢
  exact this
theorem fh_length (l : List S34) (a : Int) : (FH l a).length ≤ l.length := by
  unfold FH
  split
  · exact hl_length _ _ _
  · simp
theorem fv_set (l : List S34) (h : FV l = true) (i : Nat) (hi : i < l.length) : 0 ≤ (rd_T34 l (i : Int)).f2 ∧ (rd_T34 l (i : Int)).f2 ≤ 255 := by
  have a := (((fv_iff l).1 h).1 i hi).1
  simp only [okF, Bool.and_eq_true, decide_eq_true_eq] at a
  exact a.2.2.1
theorem fv_len (l : List S34) (h : FV l = true) : l.length ≤ 6 := ((fv_iff l).1 h).2

/-! ### iset -/
theorem i_set (a : Int) : impl_isSet.f a = some (decide (0 ≤ a ∧ a ≤ 255)) := by
  unfold impl_isSet.f
  rw [i_in]; rfl

/-! ### fvali -/
theorem tailF (k : Nat) (l : List S34) (hl : l.length ≤ 1048576) (j d : Nat) (hj : j < l.length) (h : impl_FoodsValid.l0 k l l (l.length : Int) ((j + 1 : Nat) : Int) = some (FVf l (j + 1) d)) :
    (if (j : Int) > 0 then (if 0 ≤ (wrap64 ((j : Int) - 1)) then (if (wrap64 ((j : Int) - 1)) < (l.length : Int) then (if ((rd_T34 l (wrap64 ((j : Int) - 1))).f0) ≥ ((rd_T34 l (j : Int)).f0) then (some false) else (impl_FoodsValid.l0 k l l (l.length : Int) (wrap64 ((j : Int) + 1)))) else (none)) else (none)) else (impl_FoodsValid.l0 k l l (l.length : Int) (wrap64 ((j : Int) + 1)))) = some (ascF l j && FVf l (j + 1) d) := by
  have e : wrap64 ((j : Int) + 1) = ((j + 1 : Nat) : Int) := by rw [w_ _ (by omega) (by omega)]; omega
  rw [e, h]
  unfold ascF
  by_cases c : j = 0
  · rw [if_neg (by omega)]; simp [c]
  · have e' : wrap64 ((j : Int) - 1) = ((j - 1 : Nat) : Int) := by rw [w_ _ (by omega) (by omega)]; omega
    rw [if_pos (by omega), e', if_pos (by omega), if_pos (by omega)]
    by_cases g : (rd_T34 l ((j - 1 : Nat) : Int)).f0 ≥ (rd_T34 l (j : Int)).f0
    · rw [if_pos g, decide_eq_true g]; simp [c]
    · rw [if_neg g, decide_eq_false g]; simp [c]
theorem ifv_loop (l : List S34) (hl : l.length ≤ 1048576) : ∀ (d k j : Nat), j + d = l.length → d < k → impl_FoodsValid.l0 k l l (l.length : Int) (j : Int) = some (FVf l j d)
  | 0, k, j, hj, hk => by
    obtain ⟨k, rfl⟩ : ∃ r, k = r + 1 := ⟨k - 1, by omega⟩
    simp only [impl_FoodsValid.l0]
    rw [if_neg (by omega)]
    rfl
  | d + 1, k, j, hj, hk => by
    obtain ⟨k, rfl⟩ : ∃ r, k = r + 1 := ⟨k - 1, by omega⟩
    have r := ifv_loop l hl d k (j + 1) (by omega) (by omega)
    have J := tailF k l hl j d (by omega) r
    simp only [impl_FoodsValid.l0, impl_isId.f, impl_isKind.f, i_in, i_set, Option.bind_some]
    rw [if_pos (by omega), if_pos (by omega), if_pos (by omega), J]
    simp only [FVf, okF]
    generalize decide (1 ≤ (rd_T34 l (j : Int)).f0 ∧ (rd_T34 l (j : Int)).f0 ≤ 20) = b0
    generalize decide (1 ≤ (rd_T34 l (j : Int)).f1 ∧ (rd_T34 l (j : Int)).f1 ≤ 3) = b1
    generalize decide (0 ≤ (rd_T34 l (j : Int)).f2 ∧ (rd_T34 l (j : Int)).f2 ≤ 255) = b2
    generalize decide (1 ≤ (rd_T34 l (j : Int)).f3 ∧ (rd_T34 l (j : Int)).f3 ≤ 5) = b3
    generalize decide (0 ≤ (rd_T34 l (j : Int)).f4 ∧ (rd_T34 l (j : Int)).f4 ≤ 999) = b4
    generalize decide (0 ≤ (rd_T34 l (j : Int)).f5 ∧ (rd_T34 l (j : Int)).f5 ≤ 999) = b5
    generalize (ascF l j && FVf l (j + 1) d) = R
    cases b0 <;> cases b1 <;> cases b2 <;> cases b3 <;> cases b4 <;> cases b5 <;> rfl
theorem i_fv (l : List S34) (hl : l.length ≤ 1048576) (k : Nat) (hk : l.length < k) : impl_FoodsValid.f k l = some (FV l) :=
  ifv_loop l hl l.length k 0 (by omega) hk

/-! ### harmi -/
theorem ih_loop (l : List S34) (h : FV l = true) (x : Nat) (hx : x ≤ 255) : ∀ (d k j : Nat), j + d = l.length → d < k →
    impl_FoodsHarm.l0 k (x : Int) (HL l x j) l (l.length : Int) (j : Int) = some (HL l x l.length)
  | 0, k, j, hj, hk => by
    obtain ⟨k, rfl⟩ : ∃ r, k = r + 1 := ⟨k - 1, by omega⟩
    obtain rfl : j = l.length := by omega
    simp only [impl_FoodsHarm.l0]
    rw [if_neg (by omega)]
  | d + 1, k, j, hj, hk => by
    obtain ⟨k, rfl⟩ : ∃ r, k = r + 1 := ⟨k - 1, by omega⟩
    have h6 := fv_len l h
    have e : wrap64 ((j : Int) + 1) = ((j + 1 : Nat) : Int) := by rw [w_ _ (by omega) (by omega)]; omega
    obtain ⟨s0, s1⟩ := fv_set l h j (by omega)
    have r := ih_loop l h x hx d k (j + 1) (by omega) (by omega)
    have hh := hl_length l x j
    have b : Go.bits .and .i64 (rd_T34 l (j : Int)).f2 (x : Int) = (((rd_T34 l (j : Int)).f2.toNat &&& x : Nat) : Int) := by
      have g := and_nat (rd_T34 l (j : Int)).f2.toNat x (by omega) hx
      rw [Int.toNat_of_nonneg s0] at g
      exact g
    simp only [impl_FoodsHarm.l0]
    rw [if_pos (by omega), if_pos (by omega), if_pos (by omega), b, e]
    cases c : hit l x j with
    | true =>
      have c' := of_decide_eq_true c
      rw [hl_yes l x j c] at r
      rw [if_neg (fun z => c' (by exact_mod_cast z)), if_pos (by omega)]
      exact r
    | false =>
      have c' := of_decide_eq_false c
      rw [hl_no l x j c] at r
      rw [if_pos (by have := Classical.not_not.1 c'; exact_mod_cast this)]
      exact r
theorem i_fh (l : List S34) (hl : l.length ≤ 1048576) (a : Int) (k : Nat) (hk : l.length + 10 < k) : impl_FoodsHarm.f k l a = some (FH l a) := by
  obtain ⟨k, rfl⟩ : ∃ r, k = r + 1 := ⟨k - 1, by omega⟩
  unfold impl_FoodsHarm.f
  rw [i_fv l hl _ (by omega), i_set]
  simp only [Option.bind_some]
  cases h : FV l with
  | false =>
    rw [show FH l a = [] from if_neg (by simp [h])]
    simp [impl_FoodsHarm.j0]
  | true =>
    by_cases g : 0 ≤ a ∧ a ≤ 255
    · obtain ⟨x, rfl⟩ := Int.eq_ofNat_of_zero_le g.1
      rw [show FH l (x : Int) = HL l x l.length from if_pos ⟨h, g⟩, decide_eq_true g]
      simp only [if_true, Bool.not_true, impl_FoodsHarm.j0]
      rw [if_neg (by simp)]
      have r := ih_loop l h x (by omega) l.length k 0 (by omega) (by omega)
      rw [hl_zero] at r
      exact r
    · rw [show FH l a = [] from if_neg (fun z => g z.2), decide_eq_false g]
      simp [impl_FoodsHarm.j0]

/-! ### kset -/
theorem k_set (a : Int) : spec_l3Set.f a = some (decide (0 ≤ a ∧ a ≤ 255)) := by
  unfold spec_l3Set.f
  rw [k_in]; rfl

/-! ### fval -/
theorem fj (k : Nat) (l : List S34) (hl : l.length ≤ 1048576) (j d : Nat) (hj : j < l.length) (b : Bool) (h : spec_FoodsValid.l0 k l ((j + 1 : Nat) : Int) = some (FVf l (j + 1) d)) (a1 a2 a3 a4 a5 : Int) :
    spec_FoodsValid.j1 (k + 1) l (j : Int) b (rd_T34 l (j : Int)).f0 a1 a2 a3 a4 a5 = some (!b && (ascF l j && FVf l (j + 1) d)) := by
  have e : wrap64 ((j : Int) + 1) = ((j + 1 : Nat) : Int) := by rw [w_ _ (by omega) (by omega)]; omega
  simp only [spec_FoodsValid.j1]
  cases b with
  | true => simp
  | false =>
    rw [if_neg (by simp), e, h]
    unfold ascF
    by_cases c : j = 0
    · rw [if_neg (by omega)]; simp [c]
    · have e' : wrap64 ((j : Int) - 1) = ((j - 1 : Nat) : Int) := by rw [w_ _ (by omega) (by omega)]; omega
      rw [if_pos (by omega), e', if_pos (by omega), if_pos (by omega)]
      by_cases g : (rd_T34 l ((j - 1 : Nat) : Int)).f0 ≥ (rd_T34 l (j : Int)).f0
      · rw [if_pos g, decide_eq_true g]; simp [c]
      · rw [if_neg g, decide_eq_false g]; simp [c]
theorem kfv_loop (l : List S34) (hl : l.length ≤ 1048576) : ∀ (d k j : Nat), j + d = l.length → 2 * d < k → spec_FoodsValid.l0 k l (j : Int) = some (FVf l j d)
  | 0, k, j, hj, hk => by
    obtain ⟨k, rfl⟩ : ∃ r, k = r + 1 := ⟨k - 1, by omega⟩
    simp only [spec_FoodsValid.l0]
    rw [if_neg (by omega)]
    rfl
  | d + 1, k, j, hj, hk => by
    obtain ⟨k, rfl⟩ : ∃ r, k = r + 1 + 1 := ⟨k - 2, by omega⟩
    have r := kfv_loop l hl d k (j + 1) (by omega) (by omega)
    have J := fun b a1 a2 a3 a4 a5 => fj k l hl j d (by omega) b r a1 a2 a3 a4 a5
    simp only [spec_FoodsValid.l0, k_in, k_set, Option.bind_some]
    rw [if_pos (by omega), if_pos (by omega)]
    simp only [J]
    simp only [FVf, okF]
    generalize decide (1 ≤ (rd_T34 l (j : Int)).f0 ∧ (rd_T34 l (j : Int)).f0 ≤ 20) = b0
    generalize decide (1 ≤ (rd_T34 l (j : Int)).f1 ∧ (rd_T34 l (j : Int)).f1 ≤ 3) = b1
    generalize decide (0 ≤ (rd_T34 l (j : Int)).f2 ∧ (rd_T34 l (j : Int)).f2 ≤ 255) = b2
    generalize decide (1 ≤ (rd_T34 l (j : Int)).f3 ∧ (rd_T34 l (j : Int)).f3 ≤ 5) = b3
    generalize decide (0 ≤ (rd_T34 l (j : Int)).f4 ∧ (rd_T34 l (j : Int)).f4 ≤ 999) = b4
    generalize decide (0 ≤ (rd_T34 l (j : Int)).f5 ∧ (rd_T34 l (j : Int)).f5 ≤ 999) = b5
    generalize (ascF l j && FVf l (j + 1) d) = R
    cases b0 <;> cases b1 <;> cases b2 <;> cases b3 <;> cases b4 <;> cases b5 <;> rfl
theorem k_fv (l : List S34) (hl : l.length ≤ 1048576) (k : Nat) (hk : 2 * l.length < k) : spec_FoodsValid.f k l = some (FV l) :=
  kfv_loop l hl l.length k 0 (by omega) hk

/-! ### weights -/
theorem weights : ∀ i : Fin 8, spec_l3Weight.f 20 (i.val : Int) = some ((2 ^ i.val : Nat) : Int) := by decide +kernel
theorem weight_ (k j : Nat) (hk : 20 ≤ k) (hj : j ≤ 7) : spec_l3Weight.f k (j : Int) = some ((2 ^ j : Nat) : Int) :=
  at_rounds (spec_l3Weight.mono _) hk (weights ⟨j, by omega⟩)
theorem pow_in (j : Nat) (hj : j ≤ 7) : 1 ≤ 2 ^ j ∧ 2 ^ j ≤ 128 :=
  ⟨Nat.one_le_two_pow, Nat.pow_le_pow_right (n := 2) (by decide) hj⟩

/-! ### has -/
theorem has_ (k x j : Nat) (hk : 20 ≤ k) (hx : x ≤ 255) (hj : j ≤ 7) : spec_l3Has.f k (x : Int) (j : Int) = some (x.testBit j) := by
  obtain ⟨p0, p1⟩ := pow_in j hj
  unfold spec_l3Has.f
  rw [weight_ k j hk hj]; simp only [Option.bind_some]
  have hq := Nat.div_le_self x (2 ^ j)
  have e0 : Int.tdiv (x : Int) ((2 ^ j : Nat) : Int) = ((x / 2 ^ j : Nat) : Int) := by
    rw [Int.tdiv_eq_ediv_of_nonneg (by omega), ← Int.natCast_ediv]
  rw [if_neg (by omega), e0, Nat.testBit_eq_decide_div_mod_eq]
  generalize x / 2 ^ j = q at *
  rw [w_ _ (by omega) (by omega), Int.tmod_eq_emod_of_nonneg (by omega)]
  by_cases h : q % 2 = 1
  · have h' : (q : Int) % 2 = 1 := by omega
    rw [h']; simp [h]
  · have h' : (q : Int) % 2 = 0 := by omega
    rw [h']; simp [h]

/-! ### bitsum -/
/-- The sum of the weights below n of those numbers that c has. -/
def SB (c : Nat → Bool) : Nat → Nat
  | 0 => 0
  | n + 1 => SB c n + if c n then 2 ^ n else 0
theorem sb_bits (z : Nat) : ∀ n, SB z.testBit n = z % 2 ^ n
  | 0 => by simp [SB, Nat.mod_one]
  | n + 1 => by
    have hb : z / 2 ^ n % 2 = 0 ∨ z / 2 ^ n % 2 = 1 := by omega
    rw [SB, sb_bits z n, Nat.mod_pow_succ, Nat.testBit_eq_decide_div_mod_eq]
    rcases hb with h | h <;> rw [h] <;> simp
theorem sb_lt (c : Nat → Bool) : ∀ n, SB c n < 2 ^ n
  | 0 => by simp [SB]
  | n + 1 => by
    have h := sb_lt c n
    rw [SB, Nat.pow_succ]
    split <;> omega
theorem sb_congr (c d : Nat → Bool) (h : ∀ j, c j = d j) (n : Nat) : SB c n = SB d n := by rw [show c = d from funext h]
theorem sb_or (x y : Nat) (hx : x < 256) (hy : y < 256) : SB (fun j => x.testBit j || y.testBit j) 8 = x ||| y := by
  rw [sb_congr _ (x ||| y).testBit (fun j => (Nat.testBit_or ..).symm) 8, sb_bits]
  exact Nat.mod_eq_of_lt (Nat.or_lt_two_pow (n := 8) hx hy)
theorem sb_and (x y : Nat) (hy : y < 256) : SB (fun j => x.testBit j && y.testBit j) 8 = x &&& y := by
  rw [sb_congr _ (x &&& y).testBit (fun j => (Nat.testBit_and ..).symm) 8, sb_bits]
  exact Nat.mod_eq_of_lt (Nat.and_lt_two_pow (n := 8) x hy)

/-! ### kmt -/
theorem meet_step (k x y o j : Nat) (hk : 20 ≤ k) (hx : x ≤ 255) (hy : y ≤ 255) (ho : o ≤ 1000) (hj : j ≤ 7) :
    spec_l3Meet.l0 (k + 1) (x : Int) (y : Int) (o : Int) (j : Int) = spec_l3Meet.l0 k (x : Int) (y : Int) ((o + (if x.testBit j && y.testBit j then 2 ^ j else 0) : Nat) : Int) ((j + 1 : Nat) : Int) := by
  obtain ⟨p0, p1⟩ := pow_in j hj
  have e1 : wrap64 ((j : Int) + 1) = ((j + 1 : Nat) : Int) := by rw [w_ _ (by omega) (by omega)]; omega
  have e2 : wrap64 ((o : Int) + ((2 ^ j : Nat) : Int)) = ((o + 2 ^ j : Nat) : Int) := by rw [w_ _ (by omega) (by omega)]; omega
  simp only [spec_l3Meet.l0]
  rw [if_pos (by omega), has_ k x j hk hx hj, has_ k y j hk hy hj, weight_ k j hk hj]
  simp only [Option.bind_some, e1, e2]
  cases x.testBit j <;> cases y.testBit j <;> simp
theorem meet_loop (x y : Nat) (hx : x ≤ 255) (hy : y ≤ 255) : ∀ (d k j : Nat), j + d = 8 → d + 20 < k →
    spec_l3Meet.l0 k (x : Int) (y : Int) ((SB (fun j => x.testBit j && y.testBit j) j : Nat) : Int) (j : Int) = some ((SB (fun j => x.testBit j && y.testBit j) 8 : Nat) : Int)
  | 0, k, j, hj, hk => by
    obtain ⟨k, rfl⟩ : ∃ m, k = m + 1 := ⟨k - 1, by omega⟩
    obtain rfl : j = 8 := by omega
    simp only [spec_l3Meet.l0]
    rw [if_neg (by omega)]
  | d + 1, k, j, hj, hk => by
    obtain ⟨k, rfl⟩ : ∃ m, k = m + 1 := ⟨k - 1, by omega⟩
    have h := sb_lt (fun j => x.testBit j && y.testBit j) j
    obtain ⟨p0, p1⟩ := pow_in j (by omega)
    rw [meet_step k x y _ j (by omega) hx hy (by omega) (by omega)]
    exact meet_loop x y hx hy d k (j + 1) (by omega) (by omega)
theorem k_mt (k : Nat) (x y : Nat) (hk : 40 ≤ k) (hx : x ≤ 255) (hy : y ≤ 255) : spec_l3Meet.f k (x : Int) (y : Int) = some ((x &&& y : Nat) : Int) := by
  unfold spec_l3Meet.f
  have h := meet_loop x y hx hy 8 k 0 (by omega) (by omega)
  rw [sb_and x y (by omega)] at h
  exact h

/-! ### harmk -/
theorem kh_loop (l : List S34) (h : FV l = true) (x : Nat) (hx : x ≤ 255) : ∀ (d k j : Nat), j + d = l.length → 2 * d + 60 < k →
    spec_FoodsHarm.l0 k l (x : Int) (HL l x j) (j : Int) = some (HL l x l.length)
  | 0, k, j, hj, hk => by
    obtain ⟨k, rfl⟩ : ∃ r, k = r + 1 + 1 := ⟨k - 2, by omega⟩
    obtain rfl : j = l.length := by omega
    simp only [spec_FoodsHarm.l0]
    rw [if_neg (by omega)]
    simp [spec_FoodsHarm.j1]
  | d + 1, k, j, hj, hk => by
    obtain ⟨k, rfl⟩ : ∃ r, k = r + 1 + 1 := ⟨k - 2, by omega⟩
    have h6 := fv_len l h
    have e : wrap64 ((j : Int) + 1) = ((j + 1 : Nat) : Int) := by rw [w_ _ (by omega) (by omega)]; omega
    obtain ⟨s0, s1⟩ := fv_set l h j (by omega)
    have r := kh_loop l h x hx d k (j + 1) (by omega) (by omega)
    have hh := hl_length l x j
    have b : spec_l3Meet.f k (rd_T34 l (j : Int)).f2 (x : Int) = some (((rd_T34 l (j : Int)).f2.toNat &&& x : Nat) : Int) := by
      have g := k_mt k (rd_T34 l (j : Int)).f2.toNat x (by omega) (by omega) hx
      rw [Int.toNat_of_nonneg s0] at g
      exact g
    simp only [spec_FoodsHarm.l0]
    rw [if_pos (by omega), k_fv l (by omega) _ (by omega), h, k_set]
    simp only [Option.bind_some, if_true]
    rw [decide_eq_true (show 0 ≤ (x : Int) ∧ (x : Int) ≤ 255 by omega)]
    simp only [spec_FoodsHarm.j1, if_true]
    rw [if_pos (by omega), if_pos (by omega), b, e]
    simp only [Option.bind_some]
    cases c : hit l x j with
    | true =>
      have c' := of_decide_eq_true c
      rw [hl_yes l x j c] at r
      rw [if_pos (by omega), if_pos (by omega)]
      exact r
    | false =>
      have c' := of_decide_eq_false c
      rw [hl_no l x j c] at r
      rw [if_neg (by omega)]
      exact r
theorem k_fh (l : List S34) (hl : l.length ≤ 1048576) (a : Int) (k : Nat) (hk : 2 * l.length + 70 < k) : spec_FoodsHarm.f k l a = some (FH l a) := by
  unfold spec_FoodsHarm.f
  by_cases g : FV l = true ∧ (0 ≤ a ∧ a ≤ 255)
  · obtain ⟨x, rfl⟩ := Int.eq_ofNat_of_zero_le g.2.1
    rw [show FH l (x : Int) = HL l x l.length from if_pos g]
    have r := kh_loop l g.1 x (by omega) l.length k 0 (by omega) (by omega)
    rw [hl_zero] at r
    exact r
  · rw [show FH l a = [] from if_neg g]
    obtain ⟨k, rfl⟩ : ∃ r, k = r + 1 + 1 := ⟨k - 2, by omega⟩
    simp only [spec_FoodsHarm.l0]
    by_cases z : (0 : Int) < (l.length : Int)
    · rw [if_pos z, k_fv l hl _ (by omega), k_set]
      simp only [Option.bind_some]
      cases h : FV l with
      | false => simp [spec_FoodsHarm.j1]
      | true =>
        rw [decide_eq_false (fun q => g ⟨h, q⟩)]
        simp [spec_FoodsHarm.j1]
    · rw [if_neg z]
      simp [spec_FoodsHarm.j1]

/-! ### eqints -/
theorem eq_loop (l : List Int) (hl : l.length ≤ 1000000) : ∀ (d k j : Nat), j + d = l.length → d < k → laws_eqIntS.l0 k l l (j : Int) = some true
  | 0, k, j, hj, hk => by
    obtain ⟨k, rfl⟩ : ∃ r, k = r + 1 := ⟨k - 1, by omega⟩
    simp only [laws_eqIntS.l0]
    rw [if_neg (by omega)]
  | d + 1, k, j, hj, hk => by
    obtain ⟨k, rfl⟩ : ∃ r, k = r + 1 := ⟨k - 1, by omega⟩
    have e : wrap64 ((j : Int) + 1) = ((j + 1 : Nat) : Int) := by rw [w_ _ (by omega) (by omega)]; omega
    simp only [laws_eqIntS.l0, if_true]
    rw [if_pos (by omega), if_pos (by omega), if_pos (by omega), e]
    exact eq_loop l hl d k (j + 1) (by omega) (by omega)
theorem eq_ints (l : List Int) (hl : l.length ≤ 1000000) (k : Nat) (hk : l.length < k) : laws_eqIntS.f k l l = some true := by
  unfold laws_eqIntS.f
  rw [if_pos rfl]
  exact eq_loop l hl l.length k 0 (by omega) hk

/-! ### markints -/
/-- The numbers 1 to n. -/
def ON (n : Nat) : List Int := (List.range n).map fun (j : Nat) => (j : Int) + 1
theorem on_length (n : Nat) : (ON n).length = n := by simp [ON]
theorem on_set (l : List Int) (j : Nat) (h : j < l.length) : (ON j ++ l.drop j).set j ((j : Int) + 1) = ON (j + 1) ++ l.drop (j + 1) := by
  rw [List.set_append_right _ _ (by simp [ON]), on_length, Nat.sub_self, List.drop_eq_getElem_cons h, List.set_cons_zero]
  simp [ON, List.range_succ]
theorem mark_loop (l : List Int) (hl : l.length ≤ 1000000) : ∀ (d k j : Nat), j + d = l.length → d < k →
    laws_markIntS.l0 k (ON j ++ l.drop j) ((j : Int) + 1) (j : Int) = some ((l.length : Int) + 1, ON l.length)
  | 0, k, j, hj, hk => by
    obtain ⟨k, rfl⟩ : ∃ r, k = r + 1 := ⟨k - 1, by omega⟩
    obtain rfl : j = l.length := by omega
    simp only [laws_markIntS.l0]
    rw [if_neg (by simp [on_length])]
    simp
  | d + 1, k, j, hj, hk => by
    obtain ⟨k, rfl⟩ : ∃ r, k = r + 1 := ⟨k - 1, by omega⟩
    have e : wrap64 ((j : Int) + 1) = ((j + 1 : Nat) : Int) := by rw [w_ _ (by omega) (by omega)]; omega
    have e' : wrap64 ((j : Int) + 1 + 1) = ((j + 1 : Nat) : Int) + 1 := by rw [w_ _ (by omega) (by omega)]; omega
    have t : ((j : Int)).toNat = j := by omega
    simp only [laws_markIntS.l0]
    rw [if_pos (by rw [List.length_append, on_length, List.length_drop]; omega), if_pos (by omega), t, on_set l j (by omega), e, e']
    exact mark_loop l hl d k (j + 1) (by omega) (by omega)
theorem mark_ints (l : List Int) (hl : l.length ≤ 1000000) (k : Nat) (hk : l.length < k) : laws_markIntS.f k l 1 = some ((l.length : Int) + 1, ON l.length) := by
  have h := mark_loop l hl l.length k 0 (by omega) hk
  unfold laws_markIntS.f
  simpa [ON] using h
theorem rd_on (n j : Nat) (h : j < n) : rd (ON n) (j : Int) = (j : Int) + 1 := by
  simp [rd, ON, h]
theorem held_loop (n : Nat) (hn : n ≤ 1000000) : ∀ (d k j : Nat), j + d = n → d < k → laws_heldIntS.l0 k (ON n) ((j : Int) + 1) (j : Int) = some ((n : Int) + 1)
  | 0, k, j, hj, hk => by
    obtain ⟨k, rfl⟩ : ∃ r, k = r + 1 := ⟨k - 1, by omega⟩
    obtain rfl : j = n := by omega
    simp only [laws_heldIntS.l0]
    rw [if_neg (by simp [on_length])]
  | d + 1, k, j, hj, hk => by
    obtain ⟨k, rfl⟩ : ∃ r, k = r + 1 := ⟨k - 1, by omega⟩
    have e : wrap64 ((j : Int) + 1) = ((j + 1 : Nat) : Int) := by rw [w_ _ (by omega) (by omega)]; omega
    have e' : wrap64 ((j : Int) + 1 + 1) = ((j + 1 : Nat) : Int) + 1 := by rw [w_ _ (by omega) (by omega)]; omega
    simp only [laws_heldIntS.l0]
    rw [if_pos (by rw [on_length]; omega), if_pos (by omega), rd_on n j (by omega), if_pos rfl, e, e']
    exact held_loop n hn d k (j + 1) (by omega) (by omega)
theorem held_ints (n : Nat) (hn : n ≤ 1000000) (k : Nat) (hk : n < k) : laws_heldIntS.f k (ON n) 1 = some ((n : Int) + 1) := by
  have h := held_loop n hn n k 0 (by omega) hk
  unfold laws_heldIntS.f
  simpa using h

/-! ### markFood -/
theorem mark_loop_food (d : Nat) : ∀ (k j : Nat) (l : List S34) (c : Nat), l.length ≤ 1048576 → j + d = l.length → d < k → c + 6 * d ≤ 100000000 →
    ∃ L, laws_markFoodS.l0 k l (c : Int) (j : Int) = some (((c + 6 * d : Nat) : Int), L) := by
  induction d with
  | zero =>
    intro k j l c hl hj hk hc
    obtain ⟨k, rfl⟩ : ∃ r, k = r + 1 := ⟨k - 1, by omega⟩
    simp only [laws_markFoodS.l0]
    rw [if_neg (by omega)]
    exact ⟨_, rfl⟩
  | succ d ih =>
    intro k j l c hl hj hk hc
    obtain ⟨k, rfl⟩ : ∃ r, k = r + 1 := ⟨k - 1, by omega⟩
    have e : wrap64 ((j : Int) + 1) = ((j + 1 : Nat) : Int) := by rw [w_ _ (by omega) (by omega)]; omega
    have u : ∀ m : Nat, m ≤ 100000010 → wrap64 ((m : Int) + 1) = ((m + 1 : Nat) : Int) := fun m hm => by rw [w_ _ (by omega) (by omega)]; omega
    have t : ((j : Int)).toNat = j := by omega
    simp only [laws_markFoodS.l0, Option.bind_some]
    rw [if_pos (by omega), if_pos (by omega), e, u c (by omega), u (c + 1) (by omega), u (c + 1 + 1) (by omega), u (c + 1 + 1 + 1) (by omega), u (c + 1 + 1 + 1 + 1) (by omega), u (c + 1 + 1 + 1 + 1 + 1) (by omega)]
    rw [show c + 6 * (d + 1) = c + 1 + 1 + 1 + 1 + 1 + 1 + 6 * d by omega]
    exact ih k (j + 1) _ _ (by simp only [List.length_set]; exact hl) (by simp only [List.length_set]; omega) (by omega) (by omega)
theorem mark_food (l : List S34) (hl : l.length ≤ 1048576) (k : Nat) (hk : l.length < k) : ∃ L, laws_markFoodS.f k l 1 = some (((1 + 6 * l.length : Nat) : Int), L) :=
  mark_loop_food l.length k 0 l 1 hl (by omega) hk (by omega)

theorem FnExactFoodsHarm (l : List S50) (hl : l.length ≤ maxLen) (a : Int) : ∃ k, laws_FnExactFoodsHarm.f k l a = some true := by
  by_cases c : l.length ≤ 1048576
  · obtain ⟨k, hk⟩ : ∃ k, k = 2 * l.length + 200 := ⟨_, rfl⟩
    refine ⟨k + 1, ?_⟩
    have hc : (l.map cv_food).length ≤ 1048576 := by simpa using c
    have hc' : (l.map cv_food).length = l.length := by simp
    unfold laws_FnExactFoodsHarm.f
    rw [sz_food l hl, if_pos c]
    simp only [Option.bind_some]
    rw [if_neg (by omega), to_food l c _ (by omega)]
    simp only [Option.bind_some]
    have fl := fh_length (l.map cv_food) a
    obtain ⟨M, hM⟩ := mark_food (l.map cv_food) hc (k + 1) (by omega)
    rw [k_fh _ hc a _ (by omega), i_fh _ hc a _ (by omega)]
    simp only [Option.bind_some]
    generalize hF : FH (l.map cv_food) a = F at *
    have hF6 : F.length ≤ 6 := by
      rw [← hF]
      unfold FH
      split
      · rename_i g
        have h6 := fv_len _ g.1
        have := hl_length (l.map cv_food) a.toNat (l.map cv_food).length
        omega
      · simp
    rw [eq_ints _ (by omega) _ (by omega)]
    simp only [Option.bind_some, if_true]
    rw [eq_food _ hc _ (by omega)]
    simp only [Option.bind_some, if_true]
    rw [hM]
    simp only [Option.bind_some]
    rw [if_neg (by omega)]
    simp only [laws_FnExactFoodsHarm.j0, Bool.not_true]
    rw [if_neg (by simp), mark_ints _ (by omega) _ (by omega)]
    simp only [Option.bind_some]
    rw [held_ints _ (by omega) _ (by omega)]
    simp only [Option.bind_some, if_true]
    rw [if_neg (by omega), to_food l c _ (by omega)]
    simp only [Option.bind_some]
    rw [i_fh _ hc a _ (by omega), hF]
    simp only [Option.bind_some]
    rw [eq_ints _ (by omega) _ (by omega)]
    simp only [Option.bind_some, if_true]
    rw [if_neg (by omega)]
  · refine ⟨1, ?_⟩
    unfold laws_FnExactFoodsHarm.f
    rw [sz_food l hl, if_neg c]
    simp

end Go.Proofs.Ytmdcfgcbiegofaa.Pure
