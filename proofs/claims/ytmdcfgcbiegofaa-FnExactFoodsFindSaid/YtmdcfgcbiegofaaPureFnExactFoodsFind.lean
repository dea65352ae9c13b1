/- FnExactFoodsFind answers true at every list of foods and every integer. -/
import Derived.Test.YtmdcfgcbiegofaaQFnExactFoodsFind
namespace Go.Proofs.Ytmdcfgcbiegofaa.Pure
open Go.RowKit Go.Proofs.Ytmdcfgcbiegofaa.PFnExactFoodsFind Go.Proofs.YtmdcfgcbiegofaaW.PrintWords Go.Proofs.YtmdcfgcbiegofaaW.PrintLast
set_option linter.unusedSimpArgs false
set_option linter.unusedVariables false

/-! ### core -/
theorem k_in (a b c : Int) : spec_l6In.f a b c = some (decide (b ≤ a ∧ a ≤ c)) := by
  unfold spec_l6In.f
  by_cases h : b ≤ a <;> simp [h]
theorem i_in (a b c : Int) : impl_within.f a b c = some (decide (b ≤ a ∧ a ≤ c)) := by
  unfold impl_within.f
  by_cases h : b ≤ a <;> simp [h]
theorem w_ (n : Int) (h : -9223372036854775808 ≤ n) (h' : n ≤ 9223372036854775807) : wrap64 n = n := by unfold wrap64; omega
theorem div_low (a b : Int) (hb : 0 < b) : (a / b) * b ≤ a := Int.ediv_mul_le a (by omega)
theorem div_high (a b : Int) (hb : 0 < b) : a < (a / b) * b + b := by
  have h := Int.lt_ediv_add_one_mul_self a hb
  rw [Int.add_mul] at h
  omega
theorem div_is (a b q : Int) (hb : 0 < b) (h1 : q * b ≤ a) (h2 : a < q * b + b) : a / b = q := by
  have h3 := Int.le_ediv_of_mul_le hb h1
  have h4 : a / b < q + 1 := Int.ediv_lt_of_lt_mul hb (by rw [Int.add_mul]; omega)
  omega

/-! ### toFood -/
/-- The same fields, of the other type. -/
def cv_food (x : S50) : S34 := ⟨x.f0, x.f1, x.f2, x.f3, x.f4, x.f5⟩
theorem rdl_food (l : List S50) (j : Nat) (h : j < l.length) : rd_T50 l (j : Int) = l[j] := by
  simp [rd_T50, h]
theorem to_set_food (l : List S50) (j : Nat) (h : j < l.length) : ((l.take j).map cv_food ++ List.replicate (l.length - j) z34).set j (cv_food l[j]) = (l.take (j + 1)).map cv_food ++ List.replicate (l.length - (j + 1)) z34 := by
  obtain ⟨m, hm⟩ : ∃ m, l.length - j = m + 1 := ⟨l.length - j - 1, by omega⟩
  have hl : ((l.take j).map cv_food).length = j := by simp; omega
  rw [List.set_append_right _ _ (by omega), hl, Nat.sub_self, hm, List.replicate_succ, List.set_cons_zero, List.take_succ_eq_append_getElem h, show l.length - (j + 1) = m by omega, List.map_append, List.append_assoc]
  rfl
theorem to_loop_food (l : List S50) (hl : l.length ≤ 1048576) : ∀ (d k j : Nat), j + d = l.length → d < k →
    laws_toFoodS.l0 k l ((l.take j).map cv_food ++ List.replicate (l.length - j) z34) (j : Int) = some (l.map cv_food)
  | 0, k, j, hj, hk => by
    obtain ⟨k, rfl⟩ : ∃ r, k = r + 1 := ⟨k - 1, by omega⟩
    obtain rfl : j = l.length := by omega
    simp only [laws_toFoodS.l0]
    rw [if_neg (by omega)]
    simp
  | d + 1, k, j, hj, hk => by
    obtain ⟨k, rfl⟩ : ∃ r, k = r + 1 := ⟨k - 1, by omega⟩
    have e : wrap64 ((j : Int) + 1) = ((j + 1 : Nat) : Int) := by rw [w_ _ (by omega) (by omega)]; omega
    have t : ((j : Int)).toNat = j := by omega
    have s := to_set_food l j (by omega)
    simp only [laws_toFoodS.l0, laws_toFood.f, Option.bind_some]
    rw [if_pos (by omega), if_pos (by omega), if_pos (by simp; omega), t, rdl_food l j (by omega), e]
    simp only [cv_food] at s
    rw [s]
    exact to_loop_food l hl d k (j + 1) (by omega) (by omega)
theorem to_food (l : List S50) (hl : l.length ≤ 1048576) (k : Nat) (hk : l.length < k) : laws_toFoodS.f k l = some (l.map cv_food) := by
  unfold laws_toFoodS.f
  have h := to_loop_food l hl l.length k 0 (by omega) hk
  rw [if_pos (by omega), if_pos (by omega)]
  simpa using h
theorem sz_food (l : List S50) (hl : l.length ≤ maxLen) : laws_szFoodS.f l 1048576 = some (if l.length ≤ 1048576 then (1048576 : Int) - l.length else -1) := by
  unfold maxLen at hl
  unfold laws_szFoodS.f
  rw [w_ _ (by omega) (by omega)]
  by_cases h : l.length ≤ 1048576
  · rw [if_neg (by omega), if_pos h]
  · rw [if_pos (by omega), if_neg h]

/-! ### eqFood -/
theorem eq_loop_food (l : List S34) (hl : l.length ≤ 1048576) : ∀ (d k j : Nat), j + d = l.length → d < k → laws_eqFoodS.l0 k l l (j : Int) = some true
  | 0, k, j, hj, hk => by
    obtain ⟨k, rfl⟩ : ∃ r, k = r + 1 := ⟨k - 1, by omega⟩
    simp only [laws_eqFoodS.l0]
    rw [if_neg (by omega)]
  | d + 1, k, j, hj, hk => by
    obtain ⟨k, rfl⟩ : ∃ r, k = r + 1 := ⟨k - 1, by omega⟩
    have e : wrap64 ((j : Int) + 1) = ((j + 1 : Nat) : Int) := by rw [w_ _ (by omega) (by omega)]; omega
    simp only [laws_eqFoodS.l0, laws_eqFood.f, if_true, Option.bind_some]
    rw [if_pos (by omega), if_pos (by omega), if_pos (by omega), e]
    exact eq_loop_food l hl d k (j + 1) (by omega) (by omega)
theorem eq_food (l : List S34) (hl : l.length ≤ 1048576) (k : Nat) (hk : l.length < k) : laws_eqFoodS.f k l l = some true := by
  unfold laws_eqFoodS.f
  rw [if_pos rfl]
  exact eq_loop_food l hl l.length k 0 (by omega) hk

/-! ### fvdef -/
/-- The fields of a food are in their ranges. -/
def okF (s : S34) : Bool :=
  decide (1 ≤ s.f0 ∧ s.f0 ≤ 20) && (decide (1 ≤ s.f1 ∧ s.f1 ≤ 3) && (decide (0 ≤ s.f2 ∧ s.f2 ≤ 255) && (decide (1 ≤ s.f3 ∧ s.f3 ≤ 5) && (decide (0 ≤ s.f4 ∧ s.f4 ≤ 999) && decide (0 ≤ s.f5 ∧ s.f5 ≤ 999)))))
/-- Food j's number is greater than that of the food before it. -/
def ascF (l : List S34) (j : Nat) : Bool := decide (j = 0) || !decide ((rd_T34 l ((j - 1 : Nat) : Int)).f0 ≥ (rd_T34 l (j : Int)).f0)
/-- The foods from j on (d of them) are valid. -/
def FVf (l : List S34) : Nat → Nat → Bool
  | _, 0 => decide ((l.length : Int) ≤ 6)
  | j, d + 1 => okF (rd_T34 l (j : Int)) && (ascF l j && FVf l (j + 1) d)
/-- Foods are valid. -/
def FV (l : List S34) : Bool := FVf l 0 l.length

/-! ### fvfacts -/
theorem fvf_iff (l : List S34) : ∀ (d j : Nat), FVf l j d = true ↔ (∀ i, j ≤ i → i < j + d → okF (rd_T34 l (i : Int)) = true ∧ ascF l i = true) ∧ (l.length : Int) ≤ 6
  | 0, j => by
    simp only [FVf, decide_eq_true_eq]
    exact ⟨fun h => ⟨fun i _ _ => by omega, h⟩, fun h => h.2⟩
  | d + 1, j => by
    simp only [FVf, Bool.and_eq_true, fvf_iff l d (j + 1)]
    constructor
    · rintro ⟨a, b, c, e⟩
      refine ⟨fun i h1 h2 => ?_, e⟩
      by_cases g : i = j
      · subst g; exact ⟨a, b⟩
      · exact c i (by omega) (by omega)
    · rintro ⟨a, b⟩
      exact ⟨(a j (by omega) (by omega)).1, (a j (by omega) (by omega)).2, fun i h1 h2 => a i (by omega) (by omega), b⟩
theorem fv_iff (l : List S34) : FV l = true ↔ (∀ i, i < l.length → okF (rd_T34 l (i : Int)) = true ∧ (i = 0 ∨ (rd_T34 l ((i - 1 : Nat) : Int)).f0 < (rd_T34 l (i : Int)).f0)) ∧ l.length ≤ 6 := by
  unfold FV
  rw [fvf_iff]
  have asc : ∀ i, ascF l i = true ↔ (i = 0 ∨ (rd_T34 l ((i - 1 : Nat) : Int)).f0 < (rd_T34 l (i : Int)).f0) := by
    intro i
    simp [ascF]
  constructor
  · rintro ⟨a, b⟩
    exact ⟨fun i h => ⟨(a i (by omega) (by omega)).1, (asc i).1 (a i (by omega) (by omega)).2⟩, by omega⟩
  · rintro ⟨a, b⟩
    exact ⟨fun i _ h => ⟨(a i (by omega)).1, (asc i).2 (a i (by omega)).2⟩, by omega⟩
theorem rd_fd (l : List S34) (j : Nat) : rd_T34 l (j : Int) = (l[j]?).getD z34 := by
  simp [rd_T34, List.getD_eq_getElem?_getD]
theorem kd_in (l : List S34) (h : FV l = true) (i : Nat) (hi : i < l.length) : 1 ≤ (rd_T34 l (i : Int)).f3 ∧ (rd_T34 l (i : Int)).f3 ≤ 5 := by
  have a := (((fv_iff l).1 h).1 i hi).1
  simp only [okF, Bool.and_eq_true, decide_eq_true_eq] at a
  exact a.2.2.2.1

/-! ### pidef -/
/-- The first place from j on (d of them) at which a food has a number, -1 if there is none. -/
def PIf (l : List S34) (id : Int) : Nat → Nat → Int
  | _, 0 => -1
  | j, d + 1 => if (rd_T34 l (j : Int)).f0 = id then (j : Int) else PIf l id (j + 1) d
def PI (l : List S34) (id : Int) : Int := PIf l id 0 l.length
theorem pif_range (l : List S34) (id : Int) : ∀ d j, PIf l id j d = -1 ∨ ((j : Int) ≤ PIf l id j d ∧ PIf l id j d < ((j + d : Nat) : Int))
  | 0, j => .inl rfl
  | d + 1, j => by
    unfold PIf
    split
    · right; omega
    · rcases pif_range l id d (j + 1) with h | h
      · exact .inl h
      · right; omega
theorem pi_range (l : List S34) (id : Int) : PI l id = -1 ∨ (0 ≤ PI l id ∧ PI l id < (l.length : Int)) := by
  rcases pif_range l id l.length 0 with h | h
  · exact .inl h
  · right
    unfold PI
    omega
theorem pif_is (l : List S34) (id : Int) : ∀ d j, ∀ i : Nat, PIf l id j d = (i : Int) → (rd_T34 l (i : Int)).f0 = id
  | 0, j, i, h => by
    have : (-1 : Int) = (i : Int) := h
    omega
  | d + 1, j, i, h => by
    unfold PIf at h
    split at h
    · rename_i g
      rw [← h]; exact g
    · exact pif_is l id d (j + 1) i h
theorem pif_some (l : List S34) (id : Int) : ∀ d j, ∀ i : Nat, j ≤ i → i < j + d → (rd_T34 l (i : Int)).f0 = id → ∃ p : Nat, PIf l id j d = (p : Int) ∧ p ≤ i
  | 0, j, i, h0, h1, _ => by omega
  | d + 1, j, i, h0, h1, g => by
    unfold PIf
    split
    · exact ⟨j, rfl, h0⟩
    · rename_i c
      by_cases e : i = j
      · subst e; exact absurd g c
      · exact pif_some l id d (j + 1) i (by omega) (by omega) g
theorem fv_mono (l : List S34) (h : FV l = true) : ∀ d i : Nat, i + d + 1 < l.length → (rd_T34 l (i : Int)).f0 < (rd_T34 l ((i + d + 1 : Nat) : Int)).f0
  | 0, i, hi => by
    rcases (((fv_iff l).1 h).1 (i + 1) (by omega)).2 with e | e
    · omega
    · exact e
  | d + 1, i, hi => by
    have a := fv_mono l h d i (by omega)
    rcases (((fv_iff l).1 h).1 (i + (d + 1) + 1) (by omega)).2 with e | e
    · omega
    · exact Int.lt_trans a e
theorem pi_at (l : List S34) (h : FV l = true) (id : Int) (i : Nat) (hi : i < l.length) (g : (rd_T34 l (i : Int)).f0 = id) : PI l id = (i : Int) := by
  obtain ⟨p, e, hp⟩ := pif_some l id l.length 0 i (by omega) (by omega) g
  have ep := pif_is l id l.length 0 p e
  by_cases c : p = i
  · unfold PI; rw [e, c]
  · have m := fv_mono l h (i - p - 1) p (by omega)
    rw [show p + (i - p - 1) + 1 = i by omega, ep, g] at m
    omega

/-! ### pii -/
theorem i_pi_loop (l : List S34) (hl : l.length ≤ 1048576) (id : Int) : ∀ (d k j : Nat), j + d = l.length → d < k → impl_foodPlace.l0 k l id (j : Int) = some (PIf l id j d)
  | 0, k, j, hj, hk => by
    obtain ⟨k, rfl⟩ : ∃ r, k = r + 1 := ⟨k - 1, by omega⟩
    simp only [impl_foodPlace.l0]
    rw [if_neg (by omega)]
    rfl
  | d + 1, k, j, hj, hk => by
    obtain ⟨k, rfl⟩ : ∃ r, k = r + 1 := ⟨k - 1, by omega⟩
    have e : wrap64 ((j : Int) + 1) = ((j + 1 : Nat) : Int) := by rw [w_ _ (by omega) (by omega)]; omega
    simp only [impl_foodPlace.l0]
    rw [if_pos (by omega), if_pos (by omega), e]
    unfold PIf
    by_cases c : (rd_T34 l (j : Int)).f0 = id
    · rw [if_pos c, if_pos c]
    · rw [if_neg c, if_neg c]
      exact i_pi_loop l hl id d k (j + 1) (by omega) (by omega)
theorem i_pi (l : List S34) (hl : l.length ≤ 1048576) (id : Int) (k : Nat) (hk : l.length < k) : impl_foodPlace.f k l id = some (PI l id) :=
  i_pi_loop l hl id l.length k 0 (by omega) hk

/-! ### pik -/
theorem k_pi_loop (l : List S34) (hl : l.length ≤ 1048576) (id : Int) : ∀ (d k j : Nat), j + d = l.length → d < k → spec_l5Find.l0 k l id (j : Int) = some (PIf l id j d)
  | 0, k, j, hj, hk => by
    obtain ⟨k, rfl⟩ : ∃ r, k = r + 1 := ⟨k - 1, by omega⟩
    simp only [spec_l5Find.l0]
    rw [if_neg (by omega)]
    rfl
  | d + 1, k, j, hj, hk => by
    obtain ⟨k, rfl⟩ : ∃ r, k = r + 1 := ⟨k - 1, by omega⟩
    have e : wrap64 ((j : Int) + 1) = ((j + 1 : Nat) : Int) := by rw [w_ _ (by omega) (by omega)]; omega
    simp only [spec_l5Find.l0]
    rw [if_pos (by omega), if_pos (by omega), e]
    unfold PIf
    by_cases c : (rd_T34 l (j : Int)).f0 = id
    · rw [if_pos c, if_pos c]
    · rw [if_neg c, if_neg c]
      exact k_pi_loop l hl id d k (j + 1) (by omega) (by omega)
theorem k_pi (l : List S34) (hl : l.length ≤ 1048576) (id : Int) (k : Nat) (hk : l.length < k) : spec_l5Find.f k l id = some (PI l id) :=
  k_pi_loop l hl id l.length k 0 (by omega) hk

/-! ### kset -/
theorem k_set (a : Int) : spec_l3Set.f a = some (decide (0 ≤ a ∧ a ≤ 255)) := by
  unfold spec_l3Set.f
  rw [k_in]; rfl

/-! ### fval -/
theorem fj (k : Nat) (l : List S34) (hl : l.length ≤ 1048576) (j d : Nat) (hj : j < l.length) (b : Bool) (h : spec_FoodsValid.l0 k l ((j + 1 : Nat) : Int) = some (FVf l (j + 1) d)) (a1 a2 a3 a4 a5 : Int) :
    spec_FoodsValid.j1 (k + 1) l (j : Int) b (rd_T34 l (j : Int)).f0 a1 a2 a3 a4 a5 = some (!b && (ascF l j && FVf l (j + 1) d)) := by
  have e : wrap64 ((j : Int) + 1) = ((j + 1 : Nat) : Int) := by rw [w_ _ (by omega) (by omega)]; omega
  simp only [spec_FoodsValid.j1]
  cases b with
  | true => simp
  | false =>
    rw [if_neg (by simp), e, h]
    unfold ascF
    by_cases c : j = 0
    · rw [if_neg (by omega)]; simp [c]
    · have e' : wrap64 ((j : Int) - 1) = ((j - 1 : Nat) : Int) := by rw [w_ _ (by omega) (by omega)]; omega
      rw [if_pos (by omega), e', if_pos (by omega), if_pos (by omega)]
      by_cases g : (rd_T34 l ((j - 1 : Nat) : Int)).f0 ≥ (rd_T34 l (j : Int)).f0
      · rw [if_pos g, decide_eq_true g]; simp [c]
      · rw [if_neg g, decide_eq_false g]; simp [c]
theorem kfv_loop (l : List S34) (hl : l.length ≤ 1048576) : ∀ (d k j : Nat), j + d = l.length → 2 * d < k → spec_FoodsValid.l0 k l (j : Int) = some (FVf l j d)
  | 0, k, j, hj, hk => by
    obtain ⟨k, rfl⟩ : ∃ r, k = r + 1 := ⟨k - 1, by omega⟩
    simp only [spec_FoodsValid.l0]
    rw [if_neg (by omega)]
    rfl
  | d + 1, k, j, hj, hk => by
    obtain ⟨k, rfl⟩ : ∃ r, k = r + 1 + 1 := ⟨k - 2, by omega⟩
    have r := kfv_loop l hl d k (j + 1) (by omega) (by omega)
    have J := fun b a1 a2 a3 a4 a5 => fj k l hl j d (by omega) b r a1 a2 a3 a4 a5
    simp only [spec_FoodsValid.l0, k_in, k_set, Option.bind_some]
    rw [if_pos (by omega), if_pos (by omega)]
    simp only [J]
    simp only [FVf, okF]
    generalize decide (1 ≤ (rd_T34 l (j : Int)).f0 ∧ (rd_T34 l (j : Int)).f0 ≤ 20) = b0
    generalize decide (1 ≤ (rd_T34 l (j : Int)).f1 ∧ (rd_T34 l (j : Int)).f1 ≤ 3) = b1
    generalize decide (0 ≤ (rd_T34 l (j : Int)).f2 ∧ (rd_T34 l (j : Int)).f2 ≤ 255) = b2
    generalize decide (1 ≤ (rd_T34 l (j : Int)).f3 ∧ (rd_T34 l (j : Int)).f3 ≤ 5) = b3
    generalize decide (0 ≤ (rd_T34 l (j : Int)).f4 ∧ (rd_T34 l (j : Int)).f4 ≤ 999) = b4
    generalize decide (0 ≤ (rd_T34 l (j : Int)).f5 ∧ (rd_T34 l (j : Int)).f5 ≤ 999) = b5
    generalize (ascF l j && FVf l (j + 1) d) = R
    cases b0 <;> cases b1 <;> cases b2 <;> cases b3 <;> cases b4 <;> cases b5 <;> rfl
theorem k_fv (l : List S34) (hl : l.length ≤ 1048576) (k : Nat) (hk : 2 * l.length < k) : spec_FoodsValid.f k l = some (FV l) :=
  kfv_loop l hl l.length k 0 (by omega) hk

/-! ### iset -/
theorem i_set (a : Int) : impl_isSet.f a = some (decide (0 ≤ a ∧ a ≤ 255)) := by
  unfold impl_isSet.f
  rw [i_in]; rfl

/-! ### fvali -/
theorem tailF (k : Nat) (l : List S34) (hl : l.length ≤ 1048576) (j d : Nat) (hj : j < l.length) (h : impl_FoodsValid.l0 k l l (l.length : Int) ((j + 1 : Nat) : Int) = some (FVf l (j + 1) d)) :
    (if (j : Int) > 0 then (if 0 ≤ (wrap64 ((j : Int) - 1)) then (if (wrap64 ((j : Int) - 1)) < (l.length : Int) then (if ((rd_T34 l (wrap64 ((j : Int) - 1))).f0) ≥ ((rd_T34 l (j : Int)).f0) then (some false) else (impl_FoodsValid.l0 k l l (l.length : Int) (wrap64 ((j : Int) + 1)))) else (none)) else (none)) else (impl_FoodsValid.l0 k l l (l.length : Int) (wrap64 ((j : Int) + 1)))) = some (ascF l j && FVf l (j + 1) d) := by
  have e : wrap64 ((j : Int) + 1) = ((j + 1 : Nat) : Int) := by rw [w_ _ (by omega) (by omega)]; omega
  rw [e, h]
  unfold ascF
  by_cases c : j = 0
  · rw [if_neg (by omega)]; simp [c]
  · have e' : wrap64 ((j : Int) - 1) = ((j - 1 : Nat) : Int) := by rw [w_ _ (by omega) (by omega)]; omega
    rw [if_pos (by omega), e', if_pos (by omega), if_pos (by omega)]
    by_cases g : (rd_T34 l ((j - 1 : Nat) : Int)).f0 ≥ (rd_T34 l (j : Int)).f0
    · rw [if_pos g, decide_eq_true g]; simp [c]
    · rw [if_neg g, decide_eq_false g]; simp [c]
theorem ifv_loop (l : List S34) (hl : l.length ≤ 1048576) : ∀ (d k j : Nat), j + d = l.length → d < k → impl_FoodsValid.l0 k l l (l.length : Int) (j : Int) = some (FVf l j d)
  | 0, k, j, hj, hk => by
    obtain ⟨k, rfl⟩ : ∃ r, k = r + 1 := ⟨k - 1, by omega⟩
    simp only [impl_FoodsValid.l0]
    rw [if_neg (by omega)]
    rfl
  | d + 1, k, j, hj, hk => by
    obtain ⟨k, rfl⟩ : ∃ r, k = r + 1 := ⟨k - 1, by omega⟩
    have r := ifv_loop l hl d k (j + 1) (by omega) (by omega)
    have J := tailF k l hl j d (by omega) r
    simp only [impl_FoodsValid.l0, impl_isId.f, impl_isKind.f, i_in, i_set, Option.bind_some]
    rw [if_pos (by omega), if_pos (by omega), if_pos (by omega), J]
    simp only [FVf, okF]
    generalize decide (1 ≤ (rd_T34 l (j : Int)).f0 ∧ (rd_T34 l (j : Int)).f0 ≤ 20) = b0
    generalize decide (1 ≤ (rd_T34 l (j : Int)).f1 ∧ (rd_T34 l (j : Int)).f1 ≤ 3) = b1
    generalize decide (0 ≤ (rd_T34 l (j : Int)).f2 ∧ (rd_T34 l (j : Int)).f2 ≤ 255) = b2
    generalize decide (1 ≤ (rd_T34 l (j : Int)).f3 ∧ (rd_T34 l (j : Int)).f3 ≤ 5) = b3
    generalize decide (0 ≤ (rd_T34 l (j : Int)).f4 ∧ (rd_T34 l (j : Int)).f4 ≤ 999) = b4
    generalize decide (0 ≤ (rd_T34 l (j : Int)).f5 ∧ (rd_T34 l (j : Int)).f5 ≤ 999) = b5
    generalize (ascF l j && FVf l (j + 1) d) = R
    cases b0 <;> cases b1 <;> cases b2 <;> cases b3 <;> cases b4 <;> cases b5 <;> rfl
theorem i_fv (l : List S34) (hl : l.length ≤ 1048576) (k : Nat) (hk : l.length < k) : impl_FoodsValid.f k l = some (FV l) :=
  ifv_loop l hl l.length k 0 (by omega) hk

/-! ### find -/
/-- The place of a food, -1 if there is none or the foods are invalid. -/
def FF (l : List S34) (id : Int) : Int := if FV l = true then PI l id else -1
theorem i_ff (l : List S34) (hl : l.length ≤ 1048576) (id : Int) (k : Nat) (hk : l.length < k) : impl_FoodsFind.f k l id = some (FF l id) := by
  unfold impl_FoodsFind.f FF
  rw [i_fv l hl k hk, i_pi l hl id k hk]
  cases FV l <;> simp
theorem k_ff (l : List S34) (hl : l.length ≤ 1048576) (id : Int) (k : Nat) (hk : 2 * l.length < k) : spec_FoodsFind.f k l id = some (FF l id) := by
  unfold spec_FoodsFind.f FF
  rw [k_fv l hl k hk, k_pi l hl id k (by omega)]
  cases FV l <;> simp

theorem FnExactFoodsFind (l : List S50) (hl : l.length ≤ maxLen) (a : Int) : ∃ k, laws_FnExactFoodsFind.f k l a = some true := by
  by_cases c : l.length ≤ 1048576
  · refine ⟨2 * l.length + 1, ?_⟩
    unfold laws_FnExactFoodsFind.f
    rw [sz_food l hl, if_pos c]
    simp only [Option.bind_some]
    rw [if_neg (by omega), to_food l c _ (by omega)]
    simp only [Option.bind_some]
    rw [k_ff _ (by simpa using c) a _ (by simp), i_ff _ (by simpa using c) a _ (by simp; omega)]
    simp only [Option.bind_some, if_true]
    rw [eq_food _ (by simpa using c) _ (by simp; omega)]
    simp
  · refine ⟨1, ?_⟩
    unfold laws_FnExactFoodsFind.f
    rw [sz_food l hl, if_neg c]
    simp

end Go.Proofs.Ytmdcfgcbiegofaa.Pure
