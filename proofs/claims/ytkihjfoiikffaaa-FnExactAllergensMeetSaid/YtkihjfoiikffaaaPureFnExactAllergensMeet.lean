/- FnExactAllergensMeet answers true at every two integers. -/
import Derived.Test.YtkihjfoiikffaaaPFnExactAllergensMeetx1
import Derived.Laws.BitsLemmas
namespace Go.Proofs.Ytkihjfoiikffaaa.Pure
open Go.RowKit Go.Proofs.Ytkihjfoiikffaaa.PFnExactAllergensMeet Go.Proofs.YtkihjfoiikffaaaW.PrintWords Go.Proofs.YtkihjfoiikffaaaW.PrintLast
set_option linter.unusedSimpArgs false
set_option linter.unusedVariables false

/-! ### core -/
theorem k_in (a b c : Int) : spec_l6In.f a b c = some (decide (b ≤ a ∧ a ≤ c)) := by
  unfold spec_l6In.f
  by_cases h : b ≤ a <;> simp [h]
theorem i_in (a b c : Int) : impl_within.f a b c = some (decide (b ≤ a ∧ a ≤ c)) := by
  unfold impl_within.f
  by_cases h : b ≤ a <;> simp [h]
theorem w_ (n : Int) (h : -9223372036854775808 ≤ n) (h' : n ≤ 9223372036854775807) : wrap64 n = n := by unfold wrap64; omega
theorem div_low (a b : Int) (hb : 0 < b) : (a / b) * b ≤ a := Int.ediv_mul_le a (by omega)
theorem div_high (a b : Int) (hb : 0 < b) : a < (a / b) * b + b := by
  have h := Int.lt_ediv_add_one_mul_self a hb
  rw [Int.add_mul] at h
  omega
theorem div_is (a b q : Int) (hb : 0 < b) (h1 : q * b ≤ a) (h2 : a < q * b + b) : a / b = q := by
  have h3 := Int.le_ediv_of_mul_le hb h1
  have h4 : a / b < q + 1 := Int.ediv_lt_of_lt_mul hb (by rw [Int.add_mul]; omega)
  omega

/-! ### kset -/
theorem k_set (a : Int) : spec_l3Set.f a = some (decide (0 ≤ a ∧ a ≤ 255)) := by
  unfold spec_l3Set.f
  rw [k_in]; rfl

/-! ### has -/
theorem weights : ∀ i : Fin 8, spec_l3Weight.f 20 (i.val : Int) = some ((2 ^ i.val : Nat) : Int) := by decide +kernel
theorem weight_ (k j : Nat) (hk : 20 ≤ k) (hj : j ≤ 7) : spec_l3Weight.f k (j : Int) = some ((2 ^ j : Nat) : Int) :=
  at_rounds (spec_l3Weight.mono _) hk (weights ⟨j, by omega⟩)
theorem pow_in (j : Nat) (hj : j ≤ 7) : 1 ≤ 2 ^ j ∧ 2 ^ j ≤ 128 :=
  ⟨Nat.one_le_two_pow, Nat.pow_le_pow_right (n := 2) (by decide) hj⟩
theorem has_ (k x j : Nat) (hk : 20 ≤ k) (hx : x ≤ 255) (hj : j ≤ 7) : spec_l3Has.f k (x : Int) (j : Int) = some (x.testBit j) := by
  obtain ⟨p0, p1⟩ := pow_in j hj
  unfold spec_l3Has.f
  rw [weight_ k j hk hj]; simp only [Option.bind_some]
  have hq := Nat.div_le_self x (2 ^ j)
  have e0 : Int.tdiv (x : Int) ((2 ^ j : Nat) : Int) = ((x / 2 ^ j : Nat) : Int) := by
    rw [Int.tdiv_eq_ediv_of_nonneg (by omega), ← Int.natCast_ediv]
  rw [if_neg (by omega), e0, Nat.testBit_eq_decide_div_mod_eq]
  generalize x / 2 ^ j = q at *
  rw [w_ _ (by omega) (by omega), Int.tmod_eq_emod_of_nonneg (by omega)]
  by_cases h : q % 2 = 1
  · have h' : (q : Int) % 2 = 1 := by omega
    rw [h']; simp [h]
  · have h' : (q : Int) % 2 = 0 := by omega
    rw [h']; simp [h]

/-! ### bitsum -/
/-- The sum of the weights below n of those numbers that c has. -/
def SB (c : Nat → Bool) : Nat → Nat
  | 0 => 0
  | n + 1 => SB c n + if c n then 2 ^ n else 0
theorem sb_bits (z : Nat) : ∀ n, SB z.testBit n = z % 2 ^ n
  | 0 => by simp [SB, Nat.mod_one]
  | n + 1 => by
    have hb : z / 2 ^ n % 2 = 0 ∨ z / 2 ^ n % 2 = 1 := by omega
    rw [SB, sb_bits z n, Nat.mod_pow_succ, Nat.testBit_eq_decide_div_mod_eq]
    rcases hb with h | h <;> rw [h] <;> simp
theorem sb_lt (c : Nat → Bool) : ∀ n, SB c n < 2 ^ n
  | 0 => by simp [SB]
  | n + 1 => by
    have h := sb_lt c n
    rw [SB, Nat.pow_succ]
    split <;> omega
theorem sb_congr (c d : Nat → Bool) (h : ∀ j, c j = d j) (n : Nat) : SB c n = SB d n := by rw [show c = d from funext h]
theorem sb_or (x y : Nat) (hx : x < 256) (hy : y < 256) : SB (fun j => x.testBit j || y.testBit j) 8 = x ||| y := by
  rw [sb_congr _ (x ||| y).testBit (fun j => (Nat.testBit_or ..).symm) 8, sb_bits]
  exact Nat.mod_eq_of_lt (Nat.or_lt_two_pow (n := 8) hx hy)
theorem sb_and (x y : Nat) (hy : y < 256) : SB (fun j => x.testBit j && y.testBit j) 8 = x &&& y := by
  rw [sb_congr _ (x &&& y).testBit (fun j => (Nat.testBit_and ..).symm) 8, sb_bits]
  exact Nat.mod_eq_of_lt (Nat.and_lt_two_pow (n := 8) x hy)

/-! ### am -/
/-- The number of the common allergens of two sets; -1 where a number is invalid. -/
def AM (a b : Int) : Int := if (0 ≤ a ∧ a ≤ 255) ∧ (0 ≤ b ∧ b ≤ 255) then ((a.toNat &&& b.toNat : Nat) : Int) else -1

/-! ### kmeet -/
theorem meet_step (k x y o j : Nat) (hk : 20 ≤ k) (hx : x ≤ 255) (hy : y ≤ 255) (ho : o ≤ 1000) (hj : j ≤ 7) :
    spec_l3Meet.l0 (k + 1) (x : Int) (y : Int) (o : Int) (j : Int) = spec_l3Meet.l0 k (x : Int) (y : Int) ((o + (if x.testBit j && y.testBit j then 2 ^ j else 0) : Nat) : Int) ((j + 1 : Nat) : Int) := by
  obtain ⟨p0, p1⟩ := pow_in j hj
  have e1 : wrap64 ((j : Int) + 1) = ((j + 1 : Nat) : Int) := by rw [w_ _ (by omega) (by omega)]; omega
  have e2 : wrap64 ((o : Int) + ((2 ^ j : Nat) : Int)) = ((o + 2 ^ j : Nat) : Int) := by rw [w_ _ (by omega) (by omega)]; omega
  simp only [spec_l3Meet.l0]
  rw [if_pos (by omega), has_ k x j hk hx hj, has_ k y j hk hy hj, weight_ k j hk hj]
  simp only [Option.bind_some, e1, e2]
  cases x.testBit j <;> cases y.testBit j <;> simp
theorem meet_loop (x y : Nat) (hx : x ≤ 255) (hy : y ≤ 255) : ∀ (d k j : Nat), j + d = 8 → d + 20 < k →
    spec_l3Meet.l0 k (x : Int) (y : Int) ((SB (fun j => x.testBit j && y.testBit j) j : Nat) : Int) (j : Int) = some ((SB (fun j => x.testBit j && y.testBit j) 8 : Nat) : Int)
  | 0, k, j, hj, hk => by
    obtain ⟨k, rfl⟩ : ∃ m, k = m + 1 := ⟨k - 1, by omega⟩
    obtain rfl : j = 8 := by omega
    simp only [spec_l3Meet.l0]
    rw [if_neg (by omega)]
  | d + 1, k, j, hj, hk => by
    obtain ⟨k, rfl⟩ : ∃ m, k = m + 1 := ⟨k - 1, by omega⟩
    have h := sb_lt (fun j => x.testBit j && y.testBit j) j
    obtain ⟨p0, p1⟩ := pow_in j (by omega)
    rw [meet_step k x y _ j (by omega) hx hy (by omega) (by omega)]
    exact meet_loop x y hx hy d k (j + 1) (by omega) (by omega)
theorem k_mt (k : Nat) (x y : Nat) (hk : 40 ≤ k) (hx : x ≤ 255) (hy : y ≤ 255) : spec_l3Meet.f k (x : Int) (y : Int) = some ((x &&& y : Nat) : Int) := by
  unfold spec_l3Meet.f
  have h := meet_loop x y hx hy 8 k 0 (by omega) (by omega)
  rw [sb_and x y (by omega)] at h
  exact h
theorem k_meet (k : Nat) (a b : Int) (hk : 40 ≤ k) : spec_AllergensMeet.f k a b = some (AM a b) := by
  unfold spec_AllergensMeet.f AM
  rw [k_set, k_set]
  by_cases h : 0 ≤ a ∧ a ≤ 255
  · by_cases g : 0 ≤ b ∧ b ≤ 255
    · obtain ⟨x, rfl⟩ := Int.eq_ofNat_of_zero_le h.1
      obtain ⟨y, rfl⟩ := Int.eq_ofNat_of_zero_le g.1
      rw [k_mt k x y hk (by omega) (by omega)]
      simp [h, g]
    · simp [h, g]
  · simp [h]

/-! ### iset -/
theorem i_set (a : Int) : impl_isSet.f a = some (decide (0 ≤ a ∧ a ≤ 255)) := by
  unfold impl_isSet.f
  rw [i_in]; rfl

/-! ### bitops -/
theorem wraps_i64 (n : Int) (h0 : 0 ≤ n) (h1 : n < 2 ^ 8) : IntKind.i64.wrap n = n := by rw [Go.IntKind.wrap_i64]; omega
theorem or_nat (x y : Nat) (hx : x ≤ 255) (hy : y ≤ 255) : Go.bits .or .i64 (x : Int) (y : Int) = ((x ||| y : Nat) : Int) :=
  (Go.bits_nat .i64 8 (by decide) wraps_i64 x y (by omega) (by omega)).2
theorem and_nat (x y : Nat) (hx : x ≤ 255) (hy : y ≤ 255) : Go.bits .and .i64 (x : Int) (y : Int) = ((x &&& y : Nat) : Int) :=
  (Go.bits_nat .i64 8 (by decide) wraps_i64 x y (by omega) (by omega)).1

/-! ### imeet -/
theorem i_meet (a b : Int) : impl_AllergensMeet.f a b = some (AM a b) := by
  unfold impl_AllergensMeet.f AM
  rw [i_set, i_set]
  by_cases h : 0 ≤ a ∧ a ≤ 255
  · by_cases g : 0 ≤ b ∧ b ≤ 255
    · obtain ⟨x, rfl⟩ := Int.eq_ofNat_of_zero_le h.1
      obtain ⟨y, rfl⟩ := Int.eq_ofNat_of_zero_le g.1
      rw [and_nat x y (by omega) (by omega)]
      simp [h, g]
    · simp [h, g]
  · simp [h]

theorem FnExactAllergensMeet : laws_FnExactAllergensMeet.Pure := by
  intro a b _ _
  refine ⟨40, ?_⟩
  unfold laws_FnExactAllergensMeet.f
  rw [k_meet 40 a b (by omega), i_meet]
  simp

end Go.Proofs.Ytkihjfoiikffaaa.Pure
