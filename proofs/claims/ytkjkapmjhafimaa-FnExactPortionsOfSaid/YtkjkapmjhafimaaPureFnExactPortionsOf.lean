/- FnExactPortionsOf answers true at every two integers. -/
import Derived.Test.YtkjkapmjhafimaaPFnExactPortionsOfx2
namespace Go.Proofs.Ytkjkapmjhafimaa.Pure
open Go.RowKit Go.Proofs.Ytkjkapmjhafimaa.PFnExactPortionsOf Go.Proofs.YtkjkapmjhafimaaW.PrintWords Go.Proofs.YtkjkapmjhafimaaW.PrintLast
set_option linter.unusedSimpArgs false
set_option linter.unusedVariables false

/-! ### core -/
theorem k_in (a b c : Int) : spec_l6In.f a b c = some (decide (b ≤ a ∧ a ≤ c)) := by
  unfold spec_l6In.f
  by_cases h : b ≤ a <;> simp [h]
theorem i_in (a b c : Int) : impl_within.f a b c = some (decide (b ≤ a ∧ a ≤ c)) := by
  unfold impl_within.f
  by_cases h : b ≤ a <;> simp [h]
theorem w_ (n : Int) (h : -9223372036854775808 ≤ n) (h' : n ≤ 9223372036854775807) : wrap64 n = n := by unfold wrap64; omega
theorem div_low (a b : Int) (hb : 0 < b) : (a / b) * b ≤ a := Int.ediv_mul_le a (by omega)
theorem div_high (a b : Int) (hb : 0 < b) : a < (a / b) * b + b := by
  have h := Int.lt_ediv_add_one_mul_self a hb
  rw [Int.add_mul] at h
  omega
theorem div_is (a b q : Int) (hb : 0 < b) (h1 : q * b ≤ a) (h2 : a < q * b + b) : a / b = q := by
  have h3 := Int.le_ediv_of_mul_le hb h1
  have h4 : a / b < q + 1 := Int.ediv_lt_of_lt_mul hb (by rw [Int.add_mul]; omega)
  omega

/-! ### portions -/
/-- Where the portions before number j end. -/
def PE (n m : Int) (j : Nat) : Int := (j : Int) * n / m
/-- The first c portions. -/
def PT (n m : Int) (c : Nat) : List Int := (List.range c).map fun j => PE n m (j + 1) - PE n m j
theorem pt_succ (n m : Int) (c : Nat) : PT n m (c + 1) = PT n m c ++ [PE n m (c + 1) - PE n m c] := by
  simp [PT, List.range_succ]
theorem pt_length (n m : Int) (c : Nat) : (PT n m c).length = c := by simp [PT]
theorem pe_in (n m : Int) (j : Nat) (hn : 0 ≤ n) (hn' : n ≤ 9999) (hm : 1 ≤ m) (hj : j ≤ 100) : 0 ≤ (j : Int) * n ∧ (j : Int) * n ≤ 999900 ∧ 0 ≤ PE n m j ∧ PE n m j ≤ 999900 := by
  have a : 0 ≤ (j : Int) * n := Int.mul_nonneg (by omega) hn
  have b : (j : Int) * n ≤ 100 * 9999 := Int.mul_le_mul (by omega) hn' hn (by omega)
  have c := Int.ediv_nonneg (a := (j : Int) * n) (b := m) a (by omega)
  have d := Int.ediv_le_self (a := (j : Int) * n) m a
  unfold PE
  omega
theorem pe_val (n m : Int) (j : Nat) (hn : 0 ≤ n) (hn' : n ≤ 9999) (hm : 1 ≤ m) (hj : j ≤ 100) : wrap64 (Int.tdiv (wrap64 ((j : Int) * n)) m) = PE n m j := by
  obtain ⟨a, b, c, d⟩ := pe_in n m j hn hn' hm hj
  rw [w_ ((j : Int) * n) (by omega) (by omega), Int.tdiv_eq_ediv_of_nonneg a]
  exact w_ _ (by unfold PE at c; omega) (by unfold PE at d; omega)
theorem kport_loop (n m : Int) (hn : 0 ≤ n) (hn' : n ≤ 9999) (hm : 1 ≤ m) (hm' : m ≤ 20) : ∀ (d k j : Nat), (j : Int) + d = m → d < k →
    spec_PortionsOf.l0 k n m (PT n m j) (j : Int) = some (PT n m m.toNat)
  | 0, k, j, hj, hk => by
    obtain ⟨k, rfl⟩ : ∃ r, k = r + 1 := ⟨k - 1, by omega⟩
    obtain rfl : j = m.toNat := by omega
    simp only [spec_PortionsOf.l0]
    rw [if_neg (by omega)]
  | d + 1, k, j, hj, hk => by
    obtain ⟨k, rfl⟩ : ∃ r, k = r + 1 := ⟨k - 1, by omega⟩
    obtain ⟨_, _, c, d'⟩ := pe_in n m j hn hn' hm (by omega)
    obtain ⟨_, _, c1, d1⟩ := pe_in n m (j + 1) hn hn' hm (by omega)
    have e : wrap64 ((j : Int) + 1) = ((j + 1 : Nat) : Int) := by rw [w_ _ (by omega) (by omega)]; omega
    simp only [spec_PortionsOf.l0]
    rw [if_pos (by omega), if_neg (by omega), if_pos (by rw [pt_length]; omega), e, pe_val n m (j + 1) hn hn' hm (by omega), pe_val n m j hn hn' hm (by omega), w_ _ (by omega) (by omega), ← pt_succ]
    exact kport_loop n m hn hn' hm hm' d k (j + 1) (by omega) (by omega)
theorem iport_loop (n m : Int) (hn : 0 ≤ n) (hn' : n ≤ 9999) (hm : 1 ≤ m) (hm' : m ≤ 20) : ∀ (d k j : Nat), (j : Int) + d = m → d < k →
    impl_PortionsOf.l0 k n m (PT n m j) ((j + 1 : Nat) : Int) = some (PT n m m.toNat)
  | 0, k, j, hj, hk => by
    obtain ⟨k, rfl⟩ : ∃ r, k = r + 1 := ⟨k - 1, by omega⟩
    obtain rfl : j = m.toNat := by omega
    simp only [impl_PortionsOf.l0]
    rw [if_neg (by omega)]
  | d + 1, k, j, hj, hk => by
    obtain ⟨k, rfl⟩ : ∃ r, k = r + 1 := ⟨k - 1, by omega⟩
    obtain ⟨_, _, c, d'⟩ := pe_in n m j hn hn' hm (by omega)
    obtain ⟨_, _, c1, d1⟩ := pe_in n m (j + 1) hn hn' hm (by omega)
    have e : wrap64 (((j + 1 : Nat) : Int) + 1) = ((j + 1 + 1 : Nat) : Int) := by rw [w_ _ (by omega) (by omega)]; omega
    have e' : wrap64 (((j + 1 : Nat) : Int) - 1) = (j : Int) := by rw [w_ _ (by omega) (by omega)]; omega
    simp only [impl_PortionsOf.l0]
    rw [if_pos (by omega), if_neg (by omega), if_pos (by rw [pt_length]; omega), e, e', pe_val n m (j + 1) hn hn' hm (by omega), pe_val n m j hn hn' hm (by omega), w_ _ (by omega) (by omega), ← pt_succ]
    exact iport_loop n m hn hn' hm hm' d k (j + 1) (by omega) (by omega)
/-- The portions of an amount; none where an argument is invalid. -/
def PO (n m : Int) : List Int := if (0 ≤ n ∧ n ≤ 9999) ∧ (1 ≤ m ∧ m ≤ 20) then PT n m m.toNat else []
theorem pt_zero (n m : Int) : PT n m 0 = [] := by simp [PT]
theorem i_po (k : Nat) (n m : Int) (hk : 40 ≤ k) : impl_PortionsOf.f k n m = some (PO n m) := by
  obtain ⟨k, rfl⟩ : ∃ r, k = r + 1 := ⟨k - 1, by omega⟩
  by_cases h : 0 ≤ n ∧ n ≤ 9999
  · by_cases g : 1 ≤ m ∧ m ≤ 20
    · have e : PO n m = PT n m m.toNat := by unfold PO; rw [if_pos ⟨h, g⟩]
      rw [e]
      unfold impl_PortionsOf.f impl_isAmount.f
      rw [i_in, i_in, decide_eq_true h, decide_eq_true g]
      simp only [Option.bind_some, if_true, Bool.not_true, impl_PortionsOf.j0]
      rw [if_neg (by simp)]
      have r := iport_loop n m h.1 h.2 g.1 g.2 m.toNat k 0 (by omega) (by omega)
      rw [pt_zero] at r
      exact r
    · have e : PO n m = [] := by unfold PO; rw [if_neg (fun x => g x.2)]
      rw [e]
      unfold impl_PortionsOf.f impl_isAmount.f
      rw [i_in, i_in, decide_eq_true h, decide_eq_false g]
      simp [impl_PortionsOf.j0]
  · have e : PO n m = [] := by unfold PO; rw [if_neg (fun x => h x.1)]
    rw [e]
    unfold impl_PortionsOf.f impl_isAmount.f
    rw [i_in, decide_eq_false h]
    simp [impl_PortionsOf.j0]
theorem k_po (k : Nat) (n m : Int) (hk : 40 ≤ k) : spec_PortionsOf.f k n m = some (PO n m) := by
  obtain ⟨k, rfl⟩ : ∃ r, k = r + 1 := ⟨k - 1, by omega⟩
  by_cases h : 0 ≤ n ∧ n ≤ 9999
  · by_cases g : 1 ≤ m ∧ m ≤ 20
    · have e : PO n m = PT n m m.toNat := by unfold PO; rw [if_pos ⟨h, g⟩]
      rw [e]
      unfold spec_PortionsOf.f
      rw [k_in, k_in, decide_eq_true h, decide_eq_true g]
      simp only [Option.bind_some, if_true, Bool.not_true, spec_PortionsOf.j0]
      rw [if_neg (by simp)]
      have r := kport_loop n m h.1 h.2 g.1 g.2 m.toNat k 0 (by omega) (by omega)
      rw [pt_zero] at r
      exact r
    · have e : PO n m = [] := by unfold PO; rw [if_neg (fun x => g x.2)]
      rw [e]
      unfold spec_PortionsOf.f
      rw [k_in, k_in, decide_eq_true h, decide_eq_false g]
      simp [spec_PortionsOf.j0]
  · have e : PO n m = [] := by unfold PO; rw [if_neg (fun x => h x.1)]
    rw [e]
    unfold spec_PortionsOf.f
    rw [k_in, decide_eq_false h]
    simp [spec_PortionsOf.j0]
theorem po_length (n m : Int) : (PO n m).length ≤ 20 := by
  unfold PO
  split
  · rw [pt_length]; omega
  · simp
theorem rd_pt (n m : Int) (c j : Nat) (h : j < c) : rd (PT n m c) (j : Int) = PE n m (j + 1) - PE n m j := by
  simp [rd, PT, h]
theorem pt_take (n m : Int) (c d : Nat) (h : d ≤ c) : (PT n m c).take d = PT n m d := by
  simp [PT, ← List.map_take, List.take_range, Nat.min_eq_left h]

/-! ### eqints -/
theorem eq_loop (l : List Int) (hl : l.length ≤ 1000000) : ∀ (d k j : Nat), j + d = l.length → d < k → laws_eqIntS.l0 k l l (j : Int) = some true
  | 0, k, j, hj, hk => by
    obtain ⟨k, rfl⟩ : ∃ r, k = r + 1 := ⟨k - 1, by omega⟩
    simp only [laws_eqIntS.l0]
    rw [if_neg (by omega)]
  | d + 1, k, j, hj, hk => by
    obtain ⟨k, rfl⟩ : ∃ r, k = r + 1 := ⟨k - 1, by omega⟩
    have e : wrap64 ((j : Int) + 1) = ((j + 1 : Nat) : Int) := by rw [w_ _ (by omega) (by omega)]; omega
    simp only [laws_eqIntS.l0, if_true]
    rw [if_pos (by omega), if_pos (by omega), if_pos (by omega), e]
    exact eq_loop l hl d k (j + 1) (by omega) (by omega)
theorem eq_ints (l : List Int) (hl : l.length ≤ 1000000) (k : Nat) (hk : l.length < k) : laws_eqIntS.f k l l = some true := by
  unfold laws_eqIntS.f
  rw [if_pos rfl]
  exact eq_loop l hl l.length k 0 (by omega) hk

/-! ### markints -/
/-- The numbers 1 to n. -/
def ON (n : Nat) : List Int := (List.range n).map fun (j : Nat) => (j : Int) + 1
theorem on_length (n : Nat) : (ON n).length = n := by simp [ON]
theorem on_set (l : List Int) (j : Nat) (h : j < l.length) : (ON j ++ l.drop j).set j ((j : Int) + 1) = ON (j + 1) ++ l.drop (j + 1) := by
  rw [List.set_append_right _ _ (by simp [ON]), on_length, Nat.sub_self, List.drop_eq_getElem_cons h, List.set_cons_zero]
  simp [ON, List.range_succ]
theorem mark_loop (l : List Int) (hl : l.length ≤ 1000000) : ∀ (d k j : Nat), j + d = l.length → d < k →
    laws_markIntS.l0 k (ON j ++ l.drop j) ((j : Int) + 1) (j : Int) = some ((l.length : Int) + 1, ON l.length)
  | 0, k, j, hj, hk => by
    obtain ⟨k, rfl⟩ : ∃ r, k = r + 1 := ⟨k - 1, by omega⟩
    obtain rfl : j = l.length := by omega
    simp only [laws_markIntS.l0]
    rw [if_neg (by simp [on_length])]
    simp
  | d + 1, k, j, hj, hk => by
    obtain ⟨k, rfl⟩ : ∃ r, k = r + 1 := ⟨k - 1, by omega⟩
    have e : wrap64 ((j : Int) + 1) = ((j + 1 : Nat) : Int) := by rw [w_ _ (by omega) (by omega)]; omega
    have e' : wrap64 ((j : Int) + 1 + 1) = ((j + 1 : Nat) : Int) + 1 := by rw [w_ _ (by omega) (by omega)]; omega
    have t : ((j : Int)).toNat = j := by omega
    simp only [laws_markIntS.l0]
    rw [if_pos (by rw [List.length_append, on_length, List.length_drop]; omega), if_pos (by omega), t, on_set l j (by omega), e, e']
    exact mark_loop l hl d k (j + 1) (by omega) (by omega)
theorem mark_ints (l : List Int) (hl : l.length ≤ 1000000) (k : Nat) (hk : l.length < k) : laws_markIntS.f k l 1 = some ((l.length : Int) + 1, ON l.length) := by
  have h := mark_loop l hl l.length k 0 (by omega) hk
  unfold laws_markIntS.f
  simpa [ON] using h
theorem rd_on (n j : Nat) (h : j < n) : rd (ON n) (j : Int) = (j : Int) + 1 := by
  simp [rd, ON, h]
theorem held_loop (n : Nat) (hn : n ≤ 1000000) : ∀ (d k j : Nat), j + d = n → d < k → laws_heldIntS.l0 k (ON n) ((j : Int) + 1) (j : Int) = some ((n : Int) + 1)
  | 0, k, j, hj, hk => by
    obtain ⟨k, rfl⟩ : ∃ r, k = r + 1 := ⟨k - 1, by omega⟩
    obtain rfl : j = n := by omega
    simp only [laws_heldIntS.l0]
    rw [if_neg (by simp [on_length])]
  | d + 1, k, j, hj, hk => by
    obtain ⟨k, rfl⟩ : ∃ r, k = r + 1 := ⟨k - 1, by omega⟩
    have e : wrap64 ((j : Int) + 1) = ((j + 1 : Nat) : Int) := by rw [w_ _ (by omega) (by omega)]; omega
    have e' : wrap64 ((j : Int) + 1 + 1) = ((j + 1 : Nat) : Int) + 1 := by rw [w_ _ (by omega) (by omega)]; omega
    simp only [laws_heldIntS.l0]
    rw [if_pos (by rw [on_length]; omega), if_pos (by omega), rd_on n j (by omega), if_pos rfl, e, e']
    exact held_loop n hn d k (j + 1) (by omega) (by omega)
theorem held_ints (n : Nat) (hn : n ≤ 1000000) (k : Nat) (hk : n < k) : laws_heldIntS.f k (ON n) 1 = some ((n : Int) + 1) := by
  have h := held_loop n hn n k 0 (by omega) hk
  unfold laws_heldIntS.f
  simpa using h

theorem FnExactPortionsOf : laws_FnExactPortionsOf.Pure := by
  intro n m _ _
  refine ⟨60, ?_⟩
  have hl := po_length n m
  unfold laws_FnExactPortionsOf.f
  rw [i_po 60 _ _ (by omega), k_po 60 _ _ (by omega)]; simp only [Option.bind_some]
  rw [eq_ints _ (by omega) 60 (by omega)]; simp only [Option.bind_some, if_true]
  rw [mark_ints _ (by omega) 60 (by omega)]; simp only [Option.bind_some]
  rw [held_ints _ (by omega) 60 (by omega)]; simp only [Option.bind_some, if_true]
  repeat rw [if_neg (by omega)]

end Go.Proofs.Ytkjkapmjhafimaa.Pure
