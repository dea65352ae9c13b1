/- FnExactVesselsFor answers true at every two integers. -/
import Derived.Test.YtpcclmgcnomgeaaPFnExactVesselsForx2
namespace Go.Proofs.Ytpcclmgcnomgeaa.Pure
open Go.RowKit Go.Proofs.Ytpcclmgcnomgeaa.PFnExactVesselsFor Go.Proofs.YtpcclmgcnomgeaaW.PrintWords Go.Proofs.YtpcclmgcnomgeaaW.PrintLast
set_option linter.unusedSimpArgs false
set_option linter.unusedVariables false

/-! ### core -/
theorem k_in (a b c : Int) : spec_l6In.f a b c = some (decide (b ≤ a ∧ a ≤ c)) := by
  unfold spec_l6In.f
  by_cases h : b ≤ a <;> simp [h]
theorem i_in (a b c : Int) : impl_within.f a b c = some (decide (b ≤ a ∧ a ≤ c)) := by
  unfold impl_within.f
  by_cases h : b ≤ a <;> simp [h]
theorem w_ (n : Int) (h : -9223372036854775808 ≤ n) (h' : n ≤ 9223372036854775807) : wrap64 n = n := by unfold wrap64; omega
theorem div_low (a b : Int) (hb : 0 < b) : (a / b) * b ≤ a := Int.ediv_mul_le a (by omega)
theorem div_high (a b : Int) (hb : 0 < b) : a < (a / b) * b + b := by
  have h := Int.lt_ediv_add_one_mul_self a hb
  rw [Int.add_mul] at h
  omega
theorem div_is (a b q : Int) (hb : 0 < b) (h1 : q * b ≤ a) (h2 : a < q * b + b) : a / b = q := by
  have h3 := Int.le_ediv_of_mul_le hb h1
  have h4 : a / b < q + 1 := Int.ediv_lt_of_lt_mul hb (by rw [Int.add_mul]; omega)
  omega

/-! ### okay -/
theorem k_ok (n p : Int) : spec_l2Ok.f n p = some (decide ((0 ≤ n ∧ n ≤ 9999) ∧ (1 ≤ p ∧ p ≤ 999))) := by
  unfold spec_l2Ok.f
  rw [k_in, k_in]
  by_cases h : 0 ≤ n ∧ n ≤ 9999 <;> simp [h]
theorem i_am (n : Int) : impl_isAmount.f n = some (decide (0 ≤ n ∧ n ≤ 9999)) := by
  unfold impl_isAmount.f
  rw [i_in]; rfl
theorem i_size (n : Int) : impl_isSize.f n = some (decide (1 ≤ n ∧ n ≤ 999)) := by
  unfold impl_isSize.f
  rw [i_in]; rfl

/-! ### pf -/
/-- The least number of packages; -1 where an argument is invalid. -/
def PF (n p : Int) : Int := if (0 ≤ n ∧ n ≤ 9999) ∧ (1 ≤ p ∧ p ≤ 999) then (n + p - 1) / p else -1

/-! ### iup -/
theorem i_up (n d : Int) (h0 : 0 ≤ n) (h1 : n ≤ 100000000) (h2 : 1 ≤ d) (h3 : d ≤ 100000) : impl_roundedUp.f n d = some ((n + d - 1) / d) := by
  unfold impl_roundedUp.f
  have e : wrap64 (wrap64 (n + d) - 1) = n + d - 1 := by rw [w_ (n + d) (by omega) (by omega)]; exact w_ _ (by omega) (by omega)
  have a := Int.ediv_nonneg (a := n + d - 1) (b := d) (by omega) (by omega)
  have b := Int.ediv_le_self (a := n + d - 1) d (by omega)
  rw [if_neg (by omega), e, Int.tdiv_eq_ediv_of_nonneg (by omega), w_ _ (by omega) (by omega)]

/-! ### ipf -/
theorem i_pf (n p : Int) : impl_PacksFor.f n p = some (PF n p) := by
  unfold impl_PacksFor.f PF
  rw [i_am, i_size]
  by_cases h : 0 ≤ n ∧ n ≤ 9999
  · by_cases g : 1 ≤ p ∧ p ≤ 999
    · simp [h, g, i_up n p (by omega) (by omega) (by omega) (by omega)]
    · simp [h, g]
  · simp [h]

/-! ### kup -/
theorem k_up (n d : Int) (h0 : 0 ≤ n) (h1 : n ≤ 100000000) (h2 : 1 ≤ d) (h3 : d ≤ 100000) : spec_l1Up.f n d = some ((n + d - 1) / d) := by
  unfold spec_l1Up.f
  have e : wrap64 (wrap64 (n + d) - 1) = n + d - 1 := by rw [w_ (n + d) (by omega) (by omega)]; exact w_ _ (by omega) (by omega)
  have a := Int.ediv_nonneg (a := n + d - 1) (b := d) (by omega) (by omega)
  have b := Int.ediv_le_self (a := n + d - 1) d (by omega)
  rw [if_neg (by omega), e, Int.tdiv_eq_ediv_of_nonneg (by omega), w_ _ (by omega) (by omega)]

/-! ### vessels -/
/-- What vessel j holds. -/
def VE (n m : Int) (j : Nat) : Int := if (j : Int) < n % m then n / m + 1 else n / m
/-- The first c vessels. -/
def VL (n m : Int) (c : Nat) : List Int := (List.range c).map (VE n m)
theorem vl_succ (n m : Int) (c : Nat) : VL n m (c + 1) = VL n m c ++ [VE n m c] := by
  simp [VL, List.range_succ]
theorem vl_length (n m : Int) (c : Nat) : (VL n m c).length = c := by simp [VL]
theorem vl_zero (n m : Int) : VL n m 0 = [] := by simp [VL]
theorem rd_vl (n m : Int) (c j : Nat) (h : j < c) : rd (VL n m c) (j : Int) = VE n m j := by
  simp [rd, VL, h]
/-- The vessels of an amount; none where an argument is invalid or there would be too many. -/
def VF (n z : Int) : List Int := if 1 ≤ PF n z ∧ PF n z ≤ 20 then VL n (PF n z) (PF n z).toNat else []
theorem pf_cases (n z : Int) : (PF n z = -1 ∧ ¬ ((0 ≤ n ∧ n ≤ 9999) ∧ (1 ≤ z ∧ z ≤ 999))) ∨ (PF n z = (n + z - 1) / z ∧ ((0 ≤ n ∧ n ≤ 9999) ∧ (1 ≤ z ∧ z ≤ 999)) ∧ 0 ≤ PF n z ∧ PF n z ≤ 11000) := by
  unfold PF
  by_cases h : (0 ≤ n ∧ n ≤ 9999) ∧ (1 ≤ z ∧ z ≤ 999)
  · have a := Int.ediv_nonneg (a := n + z - 1) (b := z) (by omega) (by omega)
    have b := Int.ediv_le_self (a := n + z - 1) z (by omega)
    rw [if_pos h]
    exact .inr ⟨rfl, h, a, by omega⟩
  · rw [if_neg h]
    exact .inl ⟨rfl, h⟩
theorem vf_length (n z : Int) : (VF n z).length ≤ 20 := by
  unfold VF
  split
  · rw [vl_length]; omega
  · simp
theorem ve_vals (n m : Int) (hn : 0 ≤ n) (hn' : n ≤ 9999) (hm : 1 ≤ m) : Int.tdiv n m = n / m ∧ Int.tmod n m = n % m ∧ 0 ≤ n / m ∧ n / m ≤ 9999 := by
  have b := Int.ediv_le_self (a := n) m hn
  exact ⟨Int.tdiv_eq_ediv_of_nonneg hn, Int.tmod_eq_emod_of_nonneg hn, Int.ediv_nonneg hn (by omega), by omega⟩
theorem iv_loop (n m : Int) (hn : 0 ≤ n) (hn' : n ≤ 9999) (hm : 1 ≤ m) (hm' : m ≤ 20) : ∀ (d k j : Nat), (j : Int) + d = m → d < k →
    impl_VesselsFor.l0 k n m (VL n m j) (j : Int) = some (VL n m m.toNat)
  | 0, k, j, hj, hk => by
    obtain ⟨k, rfl⟩ : ∃ r, k = r + 1 := ⟨k - 1, by omega⟩
    obtain rfl : j = m.toNat := by omega
    simp only [impl_VesselsFor.l0]
    rw [if_neg (by omega)]
  | d + 1, k, j, hj, hk => by
    obtain ⟨k, rfl⟩ : ∃ r, k = r + 1 := ⟨k - 1, by omega⟩
    obtain ⟨e1, e2, q0, q1⟩ := ve_vals n m hn hn' hm
    have e : wrap64 ((j : Int) + 1) = ((j + 1 : Nat) : Int) := by rw [w_ _ (by omega) (by omega)]; omega
    have r := iv_loop n m hn hn' hm hm' d k (j + 1) (by omega) (by omega)
    simp only [impl_VesselsFor.l0]
    rw [if_pos (by omega), if_neg (by omega), e1, e2, e, w_ (n / m) (by omega) (by omega), w_ (n / m + 1) (by omega) (by omega)]
    rw [vl_succ] at r
    by_cases c : (j : Int) < n % m
    · rw [if_pos c, if_pos (by rw [vl_length]; omega)]
      rw [show VE n m j = n / m + 1 from if_pos c] at r
      exact r
    · rw [if_neg c, if_pos (by rw [vl_length]; omega)]
      rw [show VE n m j = n / m from if_neg c] at r
      exact r
theorem kv_loop (n m : Int) (hn : 0 ≤ n) (hn' : n ≤ 9999) (hm : 1 ≤ m) (hm' : m ≤ 20) : ∀ (d k j : Nat), (j : Int) + d = m → d < k →
    spec_VesselsFor.l0 k n (VL n m j) m (j : Int) = some (VL n m m.toNat)
  | 0, k, j, hj, hk => by
    obtain ⟨k, rfl⟩ : ∃ r, k = r + 1 := ⟨k - 1, by omega⟩
    obtain rfl : j = m.toNat := by omega
    simp only [spec_VesselsFor.l0]
    rw [if_neg (by omega)]
  | d + 1, k, j, hj, hk => by
    obtain ⟨k, rfl⟩ : ∃ r, k = r + 1 := ⟨k - 1, by omega⟩
    obtain ⟨e1, e2, q0, q1⟩ := ve_vals n m hn hn' hm
    have e : wrap64 ((j : Int) + 1) = ((j + 1 : Nat) : Int) := by rw [w_ _ (by omega) (by omega)]; omega
    have r := kv_loop n m hn hn' hm hm' d k (j + 1) (by omega) (by omega)
    simp only [spec_VesselsFor.l0]
    rw [if_pos (by omega), if_neg (by omega), e1, e2, e, w_ (n / m) (by omega) (by omega), w_ (n / m + 1) (by omega) (by omega)]
    rw [vl_succ] at r
    by_cases c : (j : Int) < n % m
    · rw [if_pos c, if_pos (by rw [vl_length]; omega)]
      rw [show VE n m j = n / m + 1 from if_pos c] at r
      exact r
    · rw [if_neg c, if_pos (by rw [vl_length]; omega)]
      rw [show VE n m j = n / m from if_neg c] at r
      exact r
theorem i_vf (k : Nat) (n z : Int) (hk : 40 ≤ k) : impl_VesselsFor.f k n z = some (VF n z) := by
  unfold impl_VesselsFor.f
  rw [i_pf]; simp only [Option.bind_some]
  by_cases h : 1 ≤ PF n z ∧ PF n z ≤ 20
  · rw [show VF n z = VL n (PF n z) (PF n z).toNat from if_pos h, if_neg (by omega)]
    rcases pf_cases n z with ⟨g, _⟩ | ⟨_, g, _⟩
    · omega
    · have r := iv_loop n (PF n z) g.1.1 g.1.2 h.1 h.2 (PF n z).toNat k 0 (by omega) (by omega)
      rw [vl_zero] at r
      exact r
  · rw [show VF n z = [] from if_neg h]
    by_cases g : PF n z > 20
    · rw [if_pos g]
    · rw [if_neg g]
      obtain ⟨k, rfl⟩ : ∃ r, k = r + 1 := ⟨k - 1, by omega⟩
      simp only [impl_VesselsFor.l0]
      rw [if_neg (by omega)]
theorem k_vf (k : Nat) (n z : Int) (hk : 40 ≤ k) : spec_VesselsFor.f k n z = some (VF n z) := by
  obtain ⟨k, rfl⟩ : ∃ r, k = r + 1 := ⟨k - 1, by omega⟩
  unfold spec_VesselsFor.f
  rw [k_ok]; simp only [Option.bind_some]
  rcases pf_cases n z with ⟨e, g⟩ | ⟨e, g, g0, g1⟩
  · rw [show VF n z = [] from if_neg (by omega), decide_eq_false g, if_neg (by simp)]
    simp [spec_VesselsFor.j0]
  · rw [decide_eq_true g, if_pos rfl, k_up n z (by omega) (by omega) (by omega) (by omega)]
    simp only [Option.bind_some, spec_VesselsFor.j0]
    rw [k_up n z (by omega) (by omega) (by omega) (by omega), ← e]
    simp only [Option.bind_some]
    by_cases h : 1 ≤ PF n z ∧ PF n z ≤ 20
    · rw [show VF n z = VL n (PF n z) (PF n z).toNat from if_pos h, if_neg (by simp; omega)]
      have r := kv_loop n (PF n z) g.1.1 g.1.2 h.1 h.2 (PF n z).toNat k 0 (by omega) (by omega)
      rw [vl_zero] at r
      exact r
    · rw [show VF n z = [] from if_neg h]
      by_cases c : PF n z > 20
      · rw [if_pos (by simp; omega)]
      · rw [if_neg (by simp; omega)]
        obtain ⟨k, rfl⟩ : ∃ r, k = r + 1 := ⟨k - 1, by omega⟩
        simp only [spec_VesselsFor.l0]
        rw [if_neg (by omega)]

/-! ### eqints -/
theorem eq_loop (l : List Int) (hl : l.length ≤ 1000000) : ∀ (d k j : Nat), j + d = l.length → d < k → laws_eqIntS.l0 k l l (j : Int) = some true
  | 0, k, j, hj, hk => by
    obtain ⟨k, rfl⟩ : ∃ r, k = r + 1 := ⟨k - 1, by omega⟩
    simp only [laws_eqIntS.l0]
    rw [if_neg (by omega)]
  | d + 1, k, j, hj, hk => by
    obtain ⟨k, rfl⟩ : ∃ r, k = r + 1 := ⟨k - 1, by omega⟩
    have e : wrap64 ((j : Int) + 1) = ((j + 1 : Nat) : Int) := by rw [w_ _ (by omega) (by omega)]; omega
    simp only [laws_eqIntS.l0, if_true]
    rw [if_pos (by omega), if_pos (by omega), if_pos (by omega), e]
    exact eq_loop l hl d k (j + 1) (by omega) (by omega)
theorem eq_ints (l : List Int) (hl : l.length ≤ 1000000) (k : Nat) (hk : l.length < k) : laws_eqIntS.f k l l = some true := by
  unfold laws_eqIntS.f
  rw [if_pos rfl]
  exact eq_loop l hl l.length k 0 (by omega) hk

/-! ### markints -/
/-- The numbers 1 to n. -/
def ON (n : Nat) : List Int := (List.range n).map fun (j : Nat) => (j : Int) + 1
theorem on_length (n : Nat) : (ON n).length = n := by simp [ON]
theorem on_set (l : List Int) (j : Nat) (h : j < l.length) : (ON j ++ l.drop j).set j ((j : Int) + 1) = ON (j + 1) ++ l.drop (j + 1) := by
  rw [List.set_append_right _ _ (by simp [ON]), on_length, Nat.sub_self, List.drop_eq_getElem_cons h, List.set_cons_zero]
  simp [ON, List.range_succ]
theorem mark_loop (l : List Int) (hl : l.length ≤ 1000000) : ∀ (d k j : Nat), j + d = l.length → d < k →
    laws_markIntS.l0 k (ON j ++ l.drop j) ((j : Int) + 1) (j : Int) = some ((l.length : Int) + 1, ON l.length)
  | 0, k, j, hj, hk => by
    obtain ⟨k, rfl⟩ : ∃ r, k = r + 1 := ⟨k - 1, by omega⟩
    obtain rfl : j = l.length := by omega
    simp only [laws_markIntS.l0]
    rw [if_neg (by simp [on_length])]
    simp
  | d + 1, k, j, hj, hk => by
    obtain ⟨k, rfl⟩ : ∃ r, k = r + 1 := ⟨k - 1, by omega⟩
    have e : wrap64 ((j : Int) + 1) = ((j + 1 : Nat) : Int) := by rw [w_ _ (by omega) (by omega)]; omega
    have e' : wrap64 ((j : Int) + 1 + 1) = ((j + 1 : Nat) : Int) + 1 := by rw [w_ _ (by omega) (by omega)]; omega
    have t : ((j : Int)).toNat = j := by omega
    simp only [laws_markIntS.l0]
    rw [if_pos (by rw [List.length_append, on_length, List.length_drop]; omega), if_pos (by omega), t, on_set l j (by omega), e, e']
    exact mark_loop l hl d k (j + 1) (by omega) (by omega)
theorem mark_ints (l : List Int) (hl : l.length ≤ 1000000) (k : Nat) (hk : l.length < k) : laws_markIntS.f k l 1 = some ((l.length : Int) + 1, ON l.length) := by
  have h := mark_loop l hl l.length k 0 (by omega) hk
  unfold laws_markIntS.f
  simpa [ON] using h
theorem rd_on (n j : Nat) (h : j < n) : rd (ON n) (j : Int) = (j : Int) + 1 := by
  simp [rd, ON, h]
theorem held_loop (n : Nat) (hn : n ≤ 1000000) : ∀ (d k j : Nat), j + d = n → d < k → laws_heldIntS.l0 k (ON n) ((j : Int) + 1) (j : Int) = some ((n : Int) + 1)
  | 0, k, j, hj, hk => by
    obtain ⟨k, rfl⟩ : ∃ r, k = r + 1 := ⟨k - 1, by omega⟩
    obtain rfl : j = n := by omega
    simp only [laws_heldIntS.l0]
    rw [if_neg (by simp [on_length])]
  | d + 1, k, j, hj, hk => by
    obtain ⟨k, rfl⟩ : ∃ r, k = r + 1 := ⟨k - 1, by omega⟩
    have e : wrap64 ((j : Int) + 1) = ((j + 1 : Nat) : Int) := by rw [w_ _ (by omega) (by omega)]; omega
    have e' : wrap64 ((j : Int) + 1 + 1) = ((j + 1 : Nat) : Int) + 1 := by rw [w_ _ (by omega) (by omega)]; omega
    simp only [laws_heldIntS.l0]
    rw [if_pos (by rw [on_length]; omega), if_pos (by omega), rd_on n j (by omega), if_pos rfl, e, e']
    exact held_loop n hn d k (j + 1) (by omega) (by omega)
theorem held_ints (n : Nat) (hn : n ≤ 1000000) (k : Nat) (hk : n < k) : laws_heldIntS.f k (ON n) 1 = some ((n : Int) + 1) := by
  have h := held_loop n hn n k 0 (by omega) hk
  unfold laws_heldIntS.f
  simpa using h

theorem FnExactVesselsFor : laws_FnExactVesselsFor.Pure := by
  intro n m _ _
  refine ⟨60, ?_⟩
  have hl := vf_length n m
  unfold laws_FnExactVesselsFor.f
  rw [i_vf 60 _ _ (by omega), k_vf 60 _ _ (by omega)]; simp only [Option.bind_some]
  rw [eq_ints _ (by omega) 60 (by omega)]; simp only [Option.bind_some, if_true]
  rw [mark_ints _ (by omega) 60 (by omega)]; simp only [Option.bind_some]
  rw [held_ints _ (by omega) 60 (by omega)]; simp only [Option.bind_some, if_true]
  repeat rw [if_neg (by omega)]

end Go.Proofs.Ytpcclmgcnomgeaa.Pure
