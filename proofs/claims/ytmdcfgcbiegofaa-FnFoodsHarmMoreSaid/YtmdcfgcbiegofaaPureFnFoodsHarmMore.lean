/- FnFoodsHarmMore answers true at every two lists of bytes. -/
import Derived.Test.YtmdcfgcbiegofaaQFnFoodsHarmMore
import Derived.Laws.BitsLemmas
import Derived.Test.YtmdcfgcbiegofaaWSized
namespace Go.Proofs.Ytmdcfgcbiegofaa.Pure
open Go.RowKit Go.Proofs.Ytmdcfgcbiegofaa.PFnFoodsHarmMore Go.Proofs.YtmdcfgcbiegofaaW.PrintWords Go.Proofs.YtmdcfgcbiegofaaW.PrintLast
set_option linter.unusedSimpArgs false
set_option linter.unusedVariables false

/-! ### core -/
theorem k_in (a b c : Int) : spec_l6In.f a b c = some (decide (b ≤ a ∧ a ≤ c)) := by
  unfold spec_l6In.f
  by_cases h : b ≤ a <;> simp [h]
theorem i_in (a b c : Int) : impl_within.f a b c = some (decide (b ≤ a ∧ a ≤ c)) := by
  unfold impl_within.f
  by_cases h : b ≤ a <;> simp [h]
theorem w_ (n : Int) (h : -9223372036854775808 ≤ n) (h' : n ≤ 9223372036854775807) : wrap64 n = n := by unfold wrap64; omega
theorem div_low (a b : Int) (hb : 0 < b) : (a / b) * b ≤ a := Int.ediv_mul_le a (by omega)
theorem div_high (a b : Int) (hb : 0 < b) : a < (a / b) * b + b := by
  have h := Int.lt_ediv_add_one_mul_self a hb
  rw [Int.add_mul] at h
  omega
theorem div_is (a b q : Int) (hb : 0 < b) (h1 : q * b ≤ a) (h2 : a < q * b + b) : a / b = q := by
  have h3 := Int.le_ediv_of_mul_le hb h1
  have h4 : a / b < q + 1 := Int.ediv_lt_of_lt_mul hb (by rw [Int.add_mul]; omega)
  omega

/-! ### fvdef -/
/-- The fields of a food are in their ranges. -/
def okF (s : S34) : Bool :=
  decide (1 ≤ s.f0 ∧ s.f0 ≤ 20) && (decide (1 ≤ s.f1 ∧ s.f1 ≤ 3) && (decide (0 ≤ s.f2 ∧ s.f2 ≤ 255) && (decide (1 ≤ s.f3 ∧ s.f3 ≤ 5) && (decide (0 ≤ s.f4 ∧ s.f4 ≤ 999) && decide (0 ≤ s.f5 ∧ s.f5 ≤ 999)))))
/-- Food j's number is greater than that of the food before it. -/
def ascF (l : List S34) (j : Nat) : Bool := decide (j = 0) || !decide ((rd_T34 l ((j - 1 : Nat) : Int)).f0 ≥ (rd_T34 l (j : Int)).f0)
/-- The foods from j on (d of them) are valid. -/
def FVf (l : List S34) : Nat → Nat → Bool
  | _, 0 => decide ((l.length : Int) ≤ 6)
  | j, d + 1 => okF (rd_T34 l (j : Int)) && (ascF l j && FVf l (j + 1) d)
/-- Foods are valid. -/
def FV (l : List S34) : Bool := FVf l 0 l.length

/-! ### fvfacts -/
theorem fvf_iff (l : List S34) : ∀ (d j : Nat), FVf l j d = true ↔ (∀ i, j ≤ i → i < j + d → okF (rd_T34 l (i : Int)) = true ∧ ascF l i = true) ∧ (l.length : Int) ≤ 6
  | 0, j => by
    simp only [FVf, decide_eq_true_eq]
    exact ⟨fun h => ⟨fun i _ _ => by omega, h⟩, fun h => h.2⟩
  | d + 1, j => by
    simp only [FVf, Bool.and_eq_true, fvf_iff l d (j + 1)]
    constructor
    · rintro ⟨a, b, c, e⟩
      refine ⟨fun i h1 h2 => ?_, e⟩
      by_cases g : i = j
      · subst g; exact ⟨a, b⟩
      · exact c i (by omega) (by omega)
    · rintro ⟨a, b⟩
      exact ⟨(a j (by omega) (by omega)).1, (a j (by omega) (by omega)).2, fun i h1 h2 => a i (by omega) (by omega), b⟩
theorem fv_iff (l : List S34) : FV l = true ↔ (∀ i, i < l.length → okF (rd_T34 l (i : Int)) = true ∧ (i = 0 ∨ (rd_T34 l ((i - 1 : Nat) : Int)).f0 < (rd_T34 l (i : Int)).f0)) ∧ l.length ≤ 6 := by
  unfold FV
  rw [fvf_iff]
  have asc : ∀ i, ascF l i = true ↔ (i = 0 ∨ (rd_T34 l ((i - 1 : Nat) : Int)).f0 < (rd_T34 l (i : Int)).f0) := by
    intro i
    simp [ascF]
  constructor
  · rintro ⟨a, b⟩
    exact ⟨fun i h => ⟨(a i (by omega) (by omega)).1, (asc i).1 (a i (by omega) (by omega)).2⟩, by omega⟩
  · rintro ⟨a, b⟩
    exact ⟨fun i _ h => ⟨(a i (by omega)).1, (asc i).2 (a i (by omega)).2⟩, by omega⟩
theorem rd_fd (l : List S34) (j : Nat) : rd_T34 l (j : Int) = (l[j]?).getD z34 := by
  simp [rd_T34, List.getD_eq_getElem?_getD]

/-! ### bitops -/
theorem wraps_i64 (n : Int) (h0 : 0 ≤ n) (h1 : n < 2 ^ 8) : IntKind.i64.wrap n = n := by rw [Go.IntKind.wrap_i64]; omega
theorem or_nat (x y : Nat) (hx : x ≤ 255) (hy : y ≤ 255) : Go.bits .or .i64 (x : Int) (y : Int) = ((x ||| y : Nat) : Int) :=
  (Go.bits_nat .i64 8 (by decide) wraps_i64 x y (by omega) (by omega)).2
theorem and_nat (x y : Nat) (hx : x ≤ 255) (hy : y ≤ 255) : Go.bits .and .i64 (x : Int) (y : Int) = ((x &&& y : Nat) : Int) :=
  (Go.bits_nat .i64 8 (by decide) wraps_i64 x y (by omega) (by omega)).1

/-! ### harmdef -/
/-- Food i has an allergen of set x. -/
def hit (l : List S34) (x i : Nat) : Bool := decide (¬ (rd_T34 l (i : Int)).f2.toNat &&& x = 0)
/-- The numbers of those of the first c foods that have an allergen of set x. -/
def HL (l : List S34) (x c : Nat) : List Int := ((List.range c).filter (hit l x)).map fun (i : Nat) => (rd_T34 l (i : Int)).f0
/-- The foods that have an allergen of a set; none where an argument is invalid. -/
def FH (l : List S34) (a : Int) : List Int := if FV l = true ∧ (0 ≤ a ∧ a ≤ 255) then HL l a.toNat l.length else []
theorem hl_yes (l : List S34) (x c : Nat) (h : hit l x c = true) : HL l x (c + 1) = HL l x c ++ [(rd_T34 l (c : Int)).f0] := by
  simp [HL, List.range_succ, List.filter_append, h]
theorem hl_no (l : List S34) (x c : Nat) (h : hit l x c = false) : HL l x (c + 1) = HL l x c := by
  simp [HL, List.range_succ, List.filter_append, h]
theorem hl_zero (l : List S34) (x : Nat) : HL l x 0 = [] := by simp [HL]
theorem hl_length (l : List S34) (x c : Nat) : (HL l x c).length ≤ c := by
  have := List.length_filter_le (hit l x) (List.range c)
  simp [HL] at this ⊢
  exact this
theorem fh_length (l : List S34) (a : Int) : (FH l a).length ≤ l.length := by
  unfold FH
  split
  · exact hl_length _ _ _
  · simp
theorem fv_set (l : List S34) (h : FV l = true) (i : Nat) (hi : i < l.length) : 0 ≤ (rd_T34 l (i : Int)).f2 ∧ (rd_T34 l (i : Int)).f2 ≤ 255 := by
  have a := (((fv_iff l).1 h).1 i hi).1
  simp only [okF, Bool.and_eq_true, decide_eq_true_eq] at a
  exact a.2.2.1
theorem fv_len (l : List S34) (h : FV l = true) : l.length ≤ 6 := ((fv_iff l).1 h).2

/-! ### iset -/
theorem i_set (a : Int) : impl_isSet.f a = some (decide (0 ≤ a ∧ a ≤ 255)) := by
  unfold impl_isSet.f
  rw [i_in]; rfl

/-! ### fvali -/
theorem tailF (k : Nat) (l : List S34) (hl : l.length ≤ 1048576) (j d : Nat) (hj : j < l.length) (h : impl_FoodsValid.l0 k l l (l.length : Int) ((j + 1 : Nat) : Int) = some (FVf l (j + 1) d)) :
    (if (j : Int) > 0 then (if 0 ≤ (wrap64 ((j : Int) - 1)) then (if (wrap64 ((j : Int) - 1)) < (l.length : Int) then (if ((rd_T34 l (wrap64 ((j : Int) - 1))).f0) ≥ ((rd_T34 l (j : Int)).f0) then (some false) else (impl_FoodsValid.l0 k l l (l.length : Int) (wrap64 ((j : Int) + 1)))) else (none)) else (none)) else (impl_FoodsValid.l0 k l l (l.length : Int) (wrap64 ((j : Int) + 1)))) = some (ascF l j && FVf l (j + 1) d) := by
  have e : wrap64 ((j : Int) + 1) = ((j + 1 : Nat) : Int) := by rw [w_ _ (by omega) (by omega)]; omega
  rw [e, h]
  unfold ascF
  by_cases c : j = 0
  · rw [if_neg (by omega)]; simp [c]
  · have e' : wrap64 ((j : Int) - 1) = ((j - 1 : Nat) : Int) := by rw [w_ _ (by omega) (by omega)]; omega
    rw [if_pos (by omega), e', if_pos (by omega), if_pos (by omega)]
    by_cases g : (rd_T34 l ((j - 1 : Nat) : Int)).f0 ≥ (rd_T34 l (j : Int)).f0
    · rw [if_pos g, decide_eq_true g]; simp [c]
    · rw [if_neg g, decide_eq_false g]; simp [c]
theorem ifv_loop (l : List S34) (hl : l.length ≤ 1048576) : ∀ (d k j : Nat), j + d = l.length → d < k → impl_FoodsValid.l0 k l l (l.length : Int) (j : Int) = some (FVf l j d)
  | 0, k, j, hj, hk => by
    obtain ⟨k, rfl⟩ : ∃ r, k = r + 1 := ⟨k - 1, by omega⟩
    simp only [impl_FoodsValid.l0]
    rw [if_neg (by omega)]
    rfl
  | d + 1, k, j, hj, hk => by
    obtain ⟨k, rfl⟩ : ∃ r, k = r + 1 := ⟨k - 1, by omega⟩
    have r := ifv_loop l hl d k (j + 1) (by omega) (by omega)
    have J := tailF k l hl j d (by omega) r
    simp only [impl_FoodsValid.l0, impl_isId.f, impl_isKind.f, i_in, i_set, Option.bind_some]
    rw [if_pos (by omega), if_pos (by omega), if_pos (by omega), J]
    simp only [FVf, okF]
    generalize decide (1 ≤ (rd_T34 l (j : Int)).f0 ∧ (rd_T34 l (j : Int)).f0 ≤ 20) = b0
    generalize decide (1 ≤ (rd_T34 l (j : Int)).f1 ∧ (rd_T34 l (j : Int)).f1 ≤ 3) = b1
    generalize decide (0 ≤ (rd_T34 l (j : Int)).f2 ∧ (rd_T34 l (j : Int)).f2 ≤ 255) = b2
    generalize decide (1 ≤ (rd_T34 l (j : Int)).f3 ∧ (rd_T34 l (j : Int)).f3 ≤ 5) = b3
    generalize decide (0 ≤ (rd_T34 l (j : Int)).f4 ∧ (rd_T34 l (j : Int)).f4 ≤ 999) = b4
    generalize decide (0 ≤ (rd_T34 l (j : Int)).f5 ∧ (rd_T34 l (j : Int)).f5 ≤ 999) = b5
    generalize (ascF l j && FVf l (j + 1) d) = R
    cases b0 <;> cases b1 <;> cases b2 <;> cases b3 <;> cases b4 <;> cases b5 <;> rfl
theorem i_fv (l : List S34) (hl : l.length ≤ 1048576) (k : Nat) (hk : l.length < k) : impl_FoodsValid.f k l = some (FV l) :=
  ifv_loop l hl l.length k 0 (by omega) hk

/-! ### harmi -/
theorem ih_loop (l : List S34) (h : FV l = true) (x : Nat) (hx : x ≤ 255) : ∀ (d k j : Nat), j + d = l.length → d < k →
    impl_FoodsHarm.l0 k (x : Int) (HL l x j) l (l.length : Int) (j : Int) = some (HL l x l.length)
  | 0, k, j, hj, hk => by
    obtain ⟨k, rfl⟩ : ∃ r, k = r + 1 := ⟨k - 1, by omega⟩
    obtain rfl : j = l.length := by omega
    simp only [impl_FoodsHarm.l0]
    rw [if_neg (by omega)]
  | d + 1, k, j, hj, hk => by
    obtain ⟨k, rfl⟩ : ∃ r, k = r + 1 := ⟨k - 1, by omega⟩
    have h6 := fv_len l h
    have e : wrap64 ((j : Int) + 1) = ((j + 1 : Nat) : Int) := by rw [w_ _ (by omega) (by omega)]; omega
    obtain ⟨s0, s1⟩ := fv_set l h j (by omega)
    have r := ih_loop l h x hx d k (j + 1) (by omega) (by omega)
    have hh := hl_length l x j
    have b : Go.bits .and .i64 (rd_T34 l (j : Int)).f2 (x : Int) = (((rd_T34 l (j : Int)).f2.toNat &&& x : Nat) : Int) := by
      have g := and_nat (rd_T34 l (j : Int)).f2.toNat x (by omega) hx
      rw [Int.toNat_of_nonneg s0] at g
      exact g
    simp only [impl_FoodsHarm.l0]
    rw [if_pos (by omega), if_pos (by omega), if_pos (by omega), b, e]
    cases c : hit l x j with
    | true =>
      have c' := of_decide_eq_true c
      rw [hl_yes l x j c] at r
      rw [if_neg (fun z => c' (by exact_mod_cast z)), if_pos (by omega)]
      exact r
    | false =>
      have c' := of_decide_eq_false c
      rw [hl_no l x j c] at r
      rw [if_pos (by have := Classical.not_not.1 c'; exact_mod_cast this)]
      exact r
theorem i_fh (l : List S34) (hl : l.length ≤ 1048576) (a : Int) (k : Nat) (hk : l.length + 10 < k) : impl_FoodsHarm.f k l a = some (FH l a) := by
  obtain ⟨k, rfl⟩ : ∃ r, k = r + 1 := ⟨k - 1, by omega⟩
  unfold impl_FoodsHarm.f
  rw [i_fv l hl _ (by omega), i_set]
  simp only [Option.bind_some]
  cases h : FV l with
  | false =>
    rw [show FH l a = [] from if_neg (by simp [h])]
    simp [impl_FoodsHarm.j0]
  | true =>
    by_cases g : 0 ≤ a ∧ a ≤ 255
    · obtain ⟨x, rfl⟩ := Int.eq_ofNat_of_zero_le g.1
      rw [show FH l (x : Int) = HL l x l.length from if_pos ⟨h, g⟩, decide_eq_true g]
      simp only [if_true, Bool.not_true, impl_FoodsHarm.j0]
      rw [if_neg (by simp)]
      have r := ih_loop l h x (by omega) l.length k 0 (by omega) (by omega)
      rw [hl_zero] at r
      exact r
    · rw [show FH l a = [] from if_neg (fun z => g z.2), decide_eq_false g]
      simp [impl_FoodsHarm.j0]

/-! ### kset -/
theorem k_set (a : Int) : spec_l3Set.f a = some (decide (0 ≤ a ∧ a ≤ 255)) := by
  unfold spec_l3Set.f
  rw [k_in]; rfl

/-! ### fval -/
theorem fj (k : Nat) (l : List S34) (hl : l.length ≤ 1048576) (j d : Nat) (hj : j < l.length) (b : Bool) (h : spec_FoodsValid.l0 k l ((j + 1 : Nat) : Int) = some (FVf l (j + 1) d)) (a1 a2 a3 a4 a5 : Int) :
    spec_FoodsValid.j1 (k + 1) l (j : Int) b (rd_T34 l (j : Int)).f0 a1 a2 a3 a4 a5 = some (!b && (ascF l j && FVf l (j + 1) d)) := by
  have e : wrap64 ((j : Int) + 1) = ((j + 1 : Nat) : Int) := by rw [w_ _ (by omega) (by omega)]; omega
  simp only [spec_FoodsValid.j1]
  cases b with
  | true => simp
  | false =>
    rw [if_neg (by simp), e, h]
    unfold ascF
    by_cases c : j = 0
    · rw [if_neg (by omega)]; simp [c]
    · have e' : wrap64 ((j : Int) - 1) = ((j - 1 : Nat) : Int) := by rw [w_ _ (by omega) (by omega)]; omega
      rw [if_pos (by omega), e', if_pos (by omega), if_pos (by omega)]
      by_cases g : (rd_T34 l ((j - 1 : Nat) : Int)).f0 ≥ (rd_T34 l (j : Int)).f0
      · rw [if_pos g, decide_eq_true g]; simp [c]
      · rw [if_neg g, decide_eq_false g]; simp [c]
theorem kfv_loop (l : List S34) (hl : l.length ≤ 1048576) : ∀ (d k j : Nat), j + d = l.length → 2 * d < k → spec_FoodsValid.l0 k l (j : Int) = some (FVf l j d)
  | 0, k, j, hj, hk => by
    obtain ⟨k, rfl⟩ : ∃ r, k = r + 1 := ⟨k - 1, by omega⟩
    simp only [spec_FoodsValid.l0]
    rw [if_neg (by omega)]
    rfl
  | d + 1, k, j, hj, hk => by
    obtain ⟨k, rfl⟩ : ∃ r, k = r + 1 + 1 := ⟨k - 2, by omega⟩
    have r := kfv_loop l hl d k (j + 1) (by omega) (by omega)
    have J := fun b a1 a2 a3 a4 a5 => fj k l hl j d (by omega) b r a1 a2 a3 a4 a5
    simp only [spec_FoodsValid.l0, k_in, k_set, Option.bind_some]
    rw [if_pos (by omega), if_pos (by omega)]
    simp only [J]
    simp only [FVf, okF]
    generalize decide (1 ≤ (rd_T34 l (j : Int)).f0 ∧ (rd_T34 l (j : Int)).f0 ≤ 20) = b0
    generalize decide (1 ≤ (rd_T34 l (j : Int)).f1 ∧ (rd_T34 l (j : Int)).f1 ≤ 3) = b1
    generalize decide (0 ≤ (rd_T34 l (j : Int)).f2 ∧ (rd_T34 l (j : Int)).f2 ≤ 255) = b2
    generalize decide (1 ≤ (rd_T34 l (j : Int)).f3 ∧ (rd_T34 l (j : Int)).f3 ≤ 5) = b3
    generalize decide (0 ≤ (rd_T34 l (j : Int)).f4 ∧ (rd_T34 l (j : Int)).f4 ≤ 999) = b4
    generalize decide (0 ≤ (rd_T34 l (j : Int)).f5 ∧ (rd_T34 l (j : Int)).f5 ≤ 999) = b5
    generalize (ascF l j && FVf l (j + 1) d) = R
    cases b0 <;> cases b1 <;> cases b2 <;> cases b3 <;> cases b4 <;> cases b5 <;> rfl
theorem k_fv (l : List S34) (hl : l.length ≤ 1048576) (k : Nat) (hk : 2 * l.length < k) : spec_FoodsValid.f k l = some (FV l) :=
  kfv_loop l hl l.length k 0 (by omega) hk

/-! ### weights -/
theorem weights : ∀ i : Fin 8, spec_l3Weight.f 20 (i.val : Int) = some ((2 ^ i.val : Nat) : Int) := by decide +kernel
theorem weight_ (k j : Nat) (hk : 20 ≤ k) (hj : j ≤ 7) : spec_l3Weight.f k (j : Int) = some ((2 ^ j : Nat) : Int) :=
  at_rounds (spec_l3Weight.mono _) hk (weights ⟨j, by omega⟩)
theorem pow_in (j : Nat) (hj : j ≤ 7) : 1 ≤ 2 ^ j ∧ 2 ^ j ≤ 128 :=
  ⟨Nat.one_le_two_pow, Nat.pow_le_pow_right (n := 2) (by decide) hj⟩

/-! ### has -/
theorem has_ (k x j : Nat) (hk : 20 ≤ k) (hx : x ≤ 255) (hj : j ≤ 7) : spec_l3Has.f k (x : Int) (j : Int) = some (x.testBit j) := by
  obtain ⟨p0, p1⟩ := pow_in j hj
  unfold spec_l3Has.f
  rw [weight_ k j hk hj]; simp only [Option.bind_some]
  have hq := Nat.div_le_self x (2 ^ j)
  have e0 : Int.tdiv (x : Int) ((2 ^ j : Nat) : Int) = ((x / 2 ^ j : Nat) : Int) := by
    rw [Int.tdiv_eq_ediv_of_nonneg (by omega), ← Int.natCast_ediv]
  rw [if_neg (by omega), e0, Nat.testBit_eq_decide_div_mod_eq]
  generalize x / 2 ^ j = q at *
  rw [w_ _ (by omega) (by omega), Int.tmod_eq_emod_of_nonneg (by omega)]
  by_cases h : q % 2 = 1
  · have h' : (q : Int) % 2 = 1 := by omega
    rw [h']; simp [h]
  · have h' : (q : Int) % 2 = 0 := by omega
    rw [h']; simp [h]

/-! ### bitsum -/
/-- The sum of the weights below n of those numbers that c has. -/
def SB (c : Nat → Bool) : Nat → Nat
  | 0 => 0
  | n + 1 => SB c n + if c n then 2 ^ n else 0
theorem sb_bits (z : Nat) : ∀ n, SB z.testBit n = z % 2 ^ n
  | 0 => by simp [SB, Nat.mod_one]
  | n + 1 => by
    have hb : z / 2 ^ n % 2 = 0 ∨ z / 2 ^ n % 2 = 1 := by omega
    rw [SB, sb_bits z n, Nat.mod_pow_succ, Nat.testBit_eq_decide_div_mod_eq]
    rcases hb with h | h <;> rw [h] <;> simp
theorem sb_lt (c : Nat → Bool) : ∀ n, SB c n < 2 ^ n
  | 0 => by simp [SB]
  | n + 1 => by
    have h := sb_lt c n
    rw [SB, Nat.pow_succ]
    split <;> omega
theorem sb_congr (c d : Nat → Bool) (h : ∀ j, c j = d j) (n : Nat) : SB c n = SB d n := by rw [show c = d from funext h]
theorem sb_or (x y : Nat) (hx : x < 256) (hy : y < 256) : SB (fun j => x.testBit j || y.testBit j) 8 = x ||| y := by
  rw [sb_congr _ (x ||| y).testBit (fun j => (Nat.testBit_or ..).symm) 8, sb_bits]
  exact Nat.mod_eq_of_lt (Nat.or_lt_two_pow (n := 8) hx hy)
theorem sb_and (x y : Nat) (hy : y < 256) : SB (fun j => x.testBit j && y.testBit j) 8 = x &&& y := by
  rw [sb_congr _ (x &&& y).testBit (fun j => (Nat.testBit_and ..).symm) 8, sb_bits]
  exact Nat.mod_eq_of_lt (Nat.and_lt_two_pow (n := 8) x hy)

/-! ### kmt -/
theorem meet_step (k x y o j : Nat) (hk : 20 ≤ k) (hx : x ≤ 255) (hy : y ≤ 255) (ho : o ≤ 1000) (hj : j ≤ 7) :
    spec_l3Meet.l0 (k + 1) (x : Int) (y : Int) (o : Int) (j : Int) = spec_l3Meet.l0 k (x : Int) (y : Int) ((o + (if x.testBit j && y.testBit j then 2 ^ j else 0) : Nat) : Int) ((j + 1 : Nat) : Int) := by
  obtain ⟨p0, p1⟩ := pow_in j hj
  have e1 : wrap64 ((j : Int) + 1) = ((j + 1 : Nat) : Int) := by rw [w_ _ (by omega) (by omega)]; omega
  have e2 : wrap64 ((o : Int) + ((2 ^ j : Nat) : Int)) = ((o + 2 ^ j : Nat) : Int) := by rw [w_ _ (by omega) (by omega)]; omega
  simp only [spec_l3Meet.l0]
  rw [if_pos (by omega), has_ k x j hk hx hj, has_ k y j hk hy hj, weight_ k j hk hj]
  simp only [Option.bind_some, e1, e2]
  cases x.testBit j <;> cases y.testBit j <;> simp
theorem meet_loop (x y : Nat) (hx : x ≤ 255) (hy : y ≤ 255) : ∀ (d k j : Nat), j + d = 8 → d + 20 < k →
    spec_l3Meet.l0 k (x : Int) (y : Int) ((SB (fun j => x.testBit j && y.testBit j) j : Nat) : Int) (j : Int) = some ((SB (fun j => x.testBit j && y.testBit j) 8 : Nat) : Int)
  | 0, k, j, hj, hk => by
    obtain ⟨k, rfl⟩ : ∃ m, k = m + 1 := ⟨k - 1, by omega⟩
    obtain rfl : j = 8 := by omega
    simp only [spec_l3Meet.l0]
    rw [if_neg (by omega)]
  | d + 1, k, j, hj, hk => by
    obtain ⟨k, rfl⟩ : ∃ m, k = m + 1 := ⟨k - 1, by omega⟩
    have h := sb_lt (fun j => x.testBit j && y.testBit j) j
    obtain ⟨p0, p1⟩ := pow_in j (by omega)
    rw [meet_step k x y _ j (by omega) hx hy (by omega) (by omega)]
    exact meet_loop x y hx hy d k (j + 1) (by omega) (by omega)
theorem k_mt (k : Nat) (x y : Nat) (hk : 40 ≤ k) (hx : x ≤ 255) (hy : y ≤ 255) : spec_l3Meet.f k (x : Int) (y : Int) = some ((x &&& y : Nat) : Int) := by
  unfold spec_l3Meet.f
  have h := meet_loop x y hx hy 8 k 0 (by omega) (by omega)
  rw [sb_and x y (by omega)] at h
  exact h

/-! ### harmk -/
theorem kh_loop (l : List S34) (h : FV l = true) (x : Nat) (hx : x ≤ 255) : ∀ (d k j : Nat), j + d = l.length → 2 * d + 60 < k →
    spec_FoodsHarm.l0 k l (x : Int) (HL l x j) (j : Int) = some (HL l x l.length)
  | 0, k, j, hj, hk => by
    obtain ⟨k, rfl⟩ : ∃ r, k = r + 1 + 1 := ⟨k - 2, by omega⟩
    obtain rfl : j = l.length := by omega
    simp only [spec_FoodsHarm.l0]
    rw [if_neg (by omega)]
    simp [spec_FoodsHarm.j1]
  | d + 1, k, j, hj, hk => by
    obtain ⟨k, rfl⟩ : ∃ r, k = r + 1 + 1 := ⟨k - 2, by omega⟩
    have h6 := fv_len l h
    have e : wrap64 ((j : Int) + 1) = ((j + 1 : Nat) : Int) := by rw [w_ _ (by omega) (by omega)]; omega
    obtain ⟨s0, s1⟩ := fv_set l h j (by omega)
    have r := kh_loop l h x hx d k (j + 1) (by omega) (by omega)
    have hh := hl_length l x j
    have b : spec_l3Meet.f k (rd_T34 l (j : Int)).f2 (x : Int) = some (((rd_T34 l (j : Int)).f2.toNat &&& x : Nat) : Int) := by
      have g := k_mt k (rd_T34 l (j : Int)).f2.toNat x (by omega) (by omega) hx
      rw [Int.toNat_of_nonneg s0] at g
      exact g
    simp only [spec_FoodsHarm.l0]
    rw [if_pos (by omega), k_fv l (by omega) _ (by omega), h, k_set]
    simp only [Option.bind_some, if_true]
    rw [decide_eq_true (show 0 ≤ (x : Int) ∧ (x : Int) ≤ 255 by omega)]
    simp only [spec_FoodsHarm.j1, if_true]
    rw [if_pos (by omega), if_pos (by omega), b, e]
    simp only [Option.bind_some]
    cases c : hit l x j with
    | true =>
      have c' := of_decide_eq_true c
      rw [hl_yes l x j c] at r
      rw [if_pos (by omega), if_pos (by omega)]
      exact r
    | false =>
      have c' := of_decide_eq_false c
      rw [hl_no l x j c] at r
      rw [if_neg (by omega)]
      exact r
theorem k_fh (l : List S34) (hl : l.length ≤ 1048576) (a : Int) (k : Nat) (hk : 2 * l.length + 70 < k) : spec_FoodsHarm.f k l a = some (FH l a) := by
  unfold spec_FoodsHarm.f
  by_cases g : FV l = true ∧ (0 ≤ a ∧ a ≤ 255)
  · obtain ⟨x, rfl⟩ := Int.eq_ofNat_of_zero_le g.2.1
    rw [show FH l (x : Int) = HL l x l.length from if_pos g]
    have r := kh_loop l g.1 x (by omega) l.length k 0 (by omega) (by omega)
    rw [hl_zero] at r
    exact r
  · rw [show FH l a = [] from if_neg g]
    obtain ⟨k, rfl⟩ : ∃ r, k = r + 1 + 1 := ⟨k - 2, by omega⟩
    simp only [spec_FoodsHarm.l0]
    by_cases z : (0 : Int) < (l.length : Int)
    · rw [if_pos z, k_fv l hl _ (by omega), k_set]
      simp only [Option.bind_some]
      cases h : FV l with
      | false => simp [spec_FoodsHarm.j1]
      | true =>
        rw [decide_eq_false (fun q => g ⟨h, q⟩)]
        simp [spec_FoodsHarm.j1]
    · rw [if_neg z]
      simp [spec_FoodsHarm.j1]

/-! ### pick -/
/-- What a reader of draws holds: at most 2000 bytes. -/
def Ok (s : List Int) : Prop := s.length ≤ 2000 ∧ ∀ x ∈ s, 0 ≤ x ∧ x ≤ 255
theorem rd_ok {s : List Int} (h : Ok s) (i : Int) : 0 ≤ rd s i ∧ rd s i ≤ 255 := by
  unfold rd
  rw [List.getD_eq_getElem?_getD]
  cases e : s[i.toNat]? with
  | none => simp
  | some x => simpa using h.2 x (List.mem_of_getElem? e)
theorem xor_nonneg (x y : Int) (hx : 0 ≤ x) (hx' : x < 9223372036854775808) (hy : 0 ≤ y) (hy' : y < 9223372036854775808) : 0 ≤ Go.bits .xor .i64 x y := by
  obtain ⟨a, rfl⟩ := Int.eq_ofNat_of_zero_le hx
  obtain ⟨b, rfl⟩ := Int.eq_ofNat_of_zero_le hy
  have ha : a < 2 ^ 63 := by omega
  have hb : b < 2 ^ 63 := by omega
  have hc := Nat.xor_lt_two_pow ha hb
  have e1 : a % 2 ^ IntKind.i64.bits = a := Nat.mod_eq_of_lt (Nat.lt_of_lt_of_le ha (Nat.pow_le_pow_right (by decide) (by decide)))
  have e2 : b % 2 ^ IntKind.i64.bits = b := Nat.mod_eq_of_lt (Nat.lt_of_lt_of_le hb (Nat.pow_le_pow_right (by decide) (by decide)))
  simp only [Go.bits, BitVec.ofInt_natCast, BitVec.toNat_xor, BitVec.toNat_ofNat, e1, e2]
  rw [Go.IntKind.wrap_i64]
  omega
theorem pick_ok (k : Nat) (s : List Int) (p n : Int) (hk : 1 ≤ k) (hs : Ok s) (hp : 0 ≤ p) (hp' : p ≤ 1000000) :
    ∃ r, spec_l6Rd_pick.f k s p n = some (r, p + 1) ∧ 0 ≤ r ∧ (1 ≤ n → r < n) ∧ (n < 1 → r = 0) := by
  obtain ⟨k, rfl⟩ : ∃ m, k = m + 1 := ⟨k - 1, by omega⟩
  unfold spec_l6Rd_pick.f
  have e : wrap64 (p + 1) = p + 1 := w_ _ (by omega) (by omega)
  have e' : wrap64 (p + 1 - 1) = p := by rw [w_ _ (by omega) (by omega)]; omega
  rw [e]
  by_cases hn : n < 1
  · rw [if_pos hn]
    refine ⟨0, ?_, by omega, by omega, by omega⟩
    simp [spec_l6Rd_pick.j0]
  · rw [if_neg hn]
    by_cases hl : (s.length : Int) = 0
    · rw [beq_iff_eq.mpr hl]
      refine ⟨0, ?_, by omega, by omega, by omega⟩
      simp [spec_l6Rd_pick.j0]
    · rw [beq_eq_false_iff_ne.mpr hl]
      have hl' : (s.length : Int) ≤ 2000 := by have := hs.1; omega
      simp only [spec_l6Rd_pick.j0, e']
      rw [if_neg (by simp)]
      by_cases c : p < (s.length : Int)
      · rw [if_pos c, if_pos hp, if_neg (by omega)]
        obtain ⟨r0, r1⟩ := rd_ok hs p
        rw [w_ (rd s p) (by omega) (by omega)]
        exact ⟨_, rfl, Int.tmod_nonneg _ r0, fun _ => Int.tmod_lt_of_pos _ (by omega), by omega⟩
      · have a1 := Int.tmod_nonneg (s.length : Int) hp
        have a2 := Int.tmod_lt_of_pos p (b := (s.length : Int)) (by omega)
        have a3 : wrap64 (wrap64 (p * 7) + 3) = p * 7 + 3 := by rw [w_ (p * 7) (by omega) (by omega), w_ _ (by omega) (by omega)]
        have a4 := Int.tmod_nonneg (s.length : Int) (a := p * 7 + 3) (by omega)
        have a5 := Int.tmod_lt_of_pos (p * 7 + 3) (b := (s.length : Int)) (by omega)
        rw [if_neg c, if_neg hl, if_pos a1, if_pos a2, a3, if_pos a4, if_pos a5, if_neg (by omega)]
        obtain ⟨r0, r1⟩ := rd_ok hs (Int.tmod p (s.length : Int))
        obtain ⟨q0, q1⟩ := rd_ok hs (Int.tmod (p * 7 + 3) (s.length : Int))
        generalize rd s (Int.tmod p (s.length : Int)) = A at *
        generalize rd s (Int.tmod (p * 7 + 3) (s.length : Int)) = B at *
        have d0 : 0 ≤ Int.tdiv p (s.length : Int) := Int.tdiv_nonneg hp (by omega)
        have d1 : Int.tdiv p (s.length : Int) ≤ p := by rw [Int.tdiv_eq_ediv_of_nonneg hp]; exact Int.ediv_le_self _ hp
        generalize Int.tdiv p (s.length : Int) = D at *
        simp (disch := omega) only [w_]
        have x0 : 0 ≤ A * 131 + B * 1117 + p * 29 + D * 53 := by omega
        have x1 : A * 131 + B * 1117 + p * 29 + D * 53 ≤ 100000000 := by omega
        generalize A * 131 + B * 1117 + p * 29 + D * 53 = X at *
        have y0 : 0 ≤ Int.tdiv X 64 := Int.tdiv_nonneg x0 (by omega)
        have y1 : Int.tdiv X 64 ≤ X := by rw [Int.tdiv_eq_ediv_of_nonneg x0]; exact Int.ediv_le_self _ x0
        simp (disch := omega) only [w_]
        exact ⟨_, rfl, Int.tmod_nonneg _ (xor_nonneg _ _ (by omega) (by omega) (by omega) (by omega)), fun _ => Int.tmod_lt_of_pos _ (by omega), by omega⟩
theorem open_ok (l : List Int) (h : ∀ x ∈ l, (Lit.int .u8 x).wf = true) : ∃ s, spec_l6Open.f l = some (s, 0) ∧ Ok s := by
  have b : ∀ x ∈ l, 0 ≤ x ∧ x ≤ 255 := fun x hx => by
    have := h x hx
    simp [Lit.wf, IntKind.min, IntKind.max, IntKind.bits, IntKind.signed] at this
    omega
  unfold spec_l6Open.f
  by_cases c : (l.length : Int) > 2000
  · rw [if_pos c, if_pos (by omega)]
    exact ⟨_, rfl, by rw [List.length_take]; omega, fun x hx => b x (List.mem_of_mem_take hx)⟩
  · rw [if_neg c]
    exact ⟨_, rfl, by omega, b⟩

/-! ### dfoods -/
theorem food_loop (s : List Int) (hs : Ok s) (f0 f1 f3 f4 f5 : Int) : ∀ (d k j : Nat) (f2 p : Int), j + d = 8 → d + 21 < k → 0 ≤ p → p + d ≤ 90000 →
    ∃ g0 g1 g2 g3 g4 g5 q, spec_l91Food.l0 k (j : Int) s p f0 f1 f2 f3 f4 f5 = some (g0, g1, g2, g3, g4, g5, q) ∧ p ≤ q ∧ q ≤ p + d + 2
  | 0, k, j, f2, p, hj, hk, h0, h1 => by
    obtain ⟨k, rfl⟩ : ∃ r, k = r + 1 := ⟨k - 1, by omega⟩
    obtain ⟨r, er, _⟩ := pick_ok k s p 60 (by omega) hs h0 (by omega)
    simp only [spec_l91Food.l0]
    rw [if_neg (by omega), er]
    simp only [Option.bind_some]
    by_cases c0 : r = 0
    · obtain ⟨r2, e2, _⟩ := pick_ok k s (p + 1) 2 (by omega) hs (by omega) (by omega)
      rw [if_pos c0, e2]
      exact ⟨_, _, _, _, _, _, _, rfl, by omega, by omega⟩
    · rw [if_neg c0]
      by_cases c1 : r = 1
      · obtain ⟨r2, e2, _⟩ := pick_ok k s (p + 1) 2 (by omega) hs (by omega) (by omega)
        rw [if_pos c1, e2]
        exact ⟨_, _, _, _, _, _, _, rfl, by omega, by omega⟩
      · rw [if_neg c1]
        by_cases c2 : r = 2
        · obtain ⟨r2, e2, a2, b2, _⟩ := pick_ok k s (p + 1) 3 (by omega) hs (by omega) (by omega)
          rw [if_pos c2, e2]; simp only [Option.bind_some, List.length_cons, List.length_nil]
          rw [if_pos a2, if_pos (by have := b2 (by omega); omega)]
          exact ⟨_, _, _, _, _, _, _, rfl, by omega, by omega⟩
        · rw [if_neg c2]
          exact ⟨_, _, _, _, _, _, _, rfl, by omega, by omega⟩
  | d + 1, k, j, f2, p, hj, hk, h0, h1 => by
    obtain ⟨k, rfl⟩ : ∃ r, k = r + 1 := ⟨k - 1, by omega⟩
    have e : wrap64 ((j : Int) + 1) = ((j + 1 : Nat) : Int) := by rw [w_ _ (by omega) (by omega)]; omega
    obtain ⟨r, er, _⟩ := pick_ok k s p 6 (by omega) hs h0 (by omega)
    simp only [spec_l91Food.l0]
    rw [if_pos (by omega), er, e]
    simp only [Option.bind_some]
    by_cases c : r = 0
    · rw [if_pos c, weight_ k j (by omega) (by omega)]
      simp only [Option.bind_some]
      obtain ⟨g0, g1, g2, g3, g4, g5, q, h, q0, q1⟩ := food_loop s hs f0 f1 f3 f4 f5 d k (j + 1) (wrap64 (f2 + ((2 ^ j : Nat) : Int))) (p + 1) (by omega) (by omega) (by omega) (by omega)
      exact ⟨g0, g1, g2, g3, g4, g5, q, h, by omega, by omega⟩
    · rw [if_neg c]
      obtain ⟨g0, g1, g2, g3, g4, g5, q, h, q0, q1⟩ := food_loop s hs f0 f1 f3 f4 f5 d k (j + 1) f2 (p + 1) (by omega) (by omega) (by omega) (by omega)
      exact ⟨g0, g1, g2, g3, g4, g5, q, h, by omega, by omega⟩
theorem food_ok (k : Nat) (s : List Int) (p i : Int) (hk : 40 ≤ k) (hs : Ok s) (hp : 0 ≤ p) (hp' : p ≤ 80000) :
    ∃ g0 g1 g2 g3 g4 g5 q, spec_l91Food.f k s p i = some (g0, g1, g2, g3, g4, g5, q) ∧ p ≤ q ∧ q ≤ p + 14 := by
  unfold spec_l91Food.f
  obtain ⟨r1, e1, _⟩ := pick_ok k s p 3 (by omega) hs hp (by omega)
  obtain ⟨r2, e2, _⟩ := pick_ok k s (p + 1) 5 (by omega) hs (by omega) (by omega)
  obtain ⟨r3, e3, _⟩ := pick_ok k s (p + 1 + 1) 200 (by omega) hs (by omega) (by omega)
  obtain ⟨r4, e4, _⟩ := pick_ok k s (p + 1 + 1 + 1) 250 (by omega) hs (by omega) (by omega)
  rw [e1]; simp only [Option.bind_some]
  rw [e2]; simp only [Option.bind_some]
  rw [e3]; simp only [Option.bind_some]
  rw [e4]; simp only [Option.bind_some]
  obtain ⟨g0, g1, g2, g3, g4, g5, q, h, q0, q1⟩ := food_loop s hs i (wrap64 (1 + r1)) (wrap64 (1 + r2)) (wrap64 (r3 * 4)) r4 8 k 0 0 (p + 1 + 1 + 1 + 1) (by omega) (by omega) (by omega) (by omega)
  exact ⟨g0, g1, g2, g3, g4, g5, q, h, by omega, by omega⟩
theorem foods_loop (s : List Int) (hs : Ok s) (d : Nat) : ∀ (k j : Nat) (l : List S34) (p : Int), j + d = 9 → 1 ≤ j → d + 41 < k → l.length ≤ 6 → 0 ≤ p → p ≤ 70000 - 20 * d →
    ∃ L q, spec_l91Foods.l0 k l (j : Int) s p = some (L, q) ∧ L.length ≤ 7 ∧ p ≤ q ∧ q ≤ p + 15 * d + 1 := by
  induction d with
  | zero =>
    intro k j l p hj h1 hk hl h0 hp
    obtain ⟨k, rfl⟩ : ∃ r, k = r + 1 := ⟨k - 1, by omega⟩
    simp only [spec_l91Foods.l0]
    rw [if_neg (by omega)]
    by_cases c : (l.length : Int) > 0
    · obtain ⟨r, er, _⟩ := pick_ok k s p 30 (by omega) hs h0 (by omega)
      rw [if_pos c, er]
      simp only [Option.bind_some]
      by_cases g : r = 0
      · rw [if_pos g, if_pos (by omega), if_pos (by omega)]
        exact ⟨_, _, rfl, by simp; omega, by omega, by omega⟩
      · rw [if_neg g]
        exact ⟨_, _, rfl, by omega, by omega, by omega⟩
    · rw [if_neg c]
      exact ⟨_, _, rfl, by omega, by omega, by omega⟩
  | succ d ih =>
    intro k j l p hj h1 hk hl h0 hp
    obtain ⟨k, rfl⟩ : ∃ r, k = r + 1 := ⟨k - 1, by omega⟩
    have e : wrap64 ((j : Int) + 1) = ((j + 1 : Nat) : Int) := by rw [w_ _ (by omega) (by omega)]; omega
    obtain ⟨r, er, _⟩ := pick_ok k s p 3 (by omega) hs h0 (by omega)
    simp only [spec_l91Foods.l0]
    rw [if_pos (by omega), er, e]
    simp only [Option.bind_some]
    by_cases c : r > 0
    · rw [if_pos c]
      by_cases g : (l.length : Int) < 6
      · obtain ⟨g0, g1, g2, g3, g4, g5, q, h, q0, q1⟩ := food_ok k s (p + 1) (j : Int) (by omega) hs (by omega) (by omega)
        rw [if_pos g, h]
        simp only [Option.bind_some]
        rw [if_pos (by omega)]
        obtain ⟨L, q', h', l', q0', q1'⟩ := ih k (j + 1) (l ++ [⟨g0, g1, g2, g3, g4, g5⟩]) q (by omega) (by omega) (by omega) (by simp; omega) (by omega) (by omega)
        exact ⟨L, q', h', l', by omega, by omega⟩
      · rw [if_neg g]
        obtain ⟨L, q', h', l', q0', q1'⟩ := ih k (j + 1) l (p + 1) (by omega) (by omega) (by omega) hl (by omega) (by omega)
        exact ⟨L, q', h', l', by omega, by omega⟩
    · rw [if_neg c]
      obtain ⟨L, q', h', l', q0', q1'⟩ := ih k (j + 1) l (p + 1) (by omega) (by omega) (by omega) hl (by omega) (by omega)
      exact ⟨L, q', h', l', by omega, by omega⟩
theorem foods_ok (k : Nat) (s : List Int) (p : Int) (hk : 60 ≤ k) (hs : Ok s) (hp : 0 ≤ p) (hp' : p ≤ 10000) : ∃ L q, spec_l91Foods.f k s p = some (L, q) ∧ L.length ≤ 7 ∧ p ≤ q ∧ q ≤ p + 130 := by
  unfold spec_l91Foods.f
  obtain ⟨L, q, h, l, q0, q1⟩ := foods_loop s hs 8 k 1 [] p (by omega) (by omega) (by omega) (by simp) hp (by omega)
  exact ⟨L, q, h, l, q0, by omega⟩

/-! ### dset -/
theorem set_loop (s : List Int) (hs : Ok s) : ∀ (d k j : Nat) (o p : Int), j + d = 8 → d + 20 < k → 0 ≤ p → p + d ≤ 100000 → ∃ n q, spec_l91Set.l0 k o (j : Int) s p = some (n, q) ∧ p ≤ q ∧ q ≤ p + d
  | 0, k, j, o, p, hj, hk, h0, h1 => by
    obtain ⟨k, rfl⟩ : ∃ r, k = r + 1 := ⟨k - 1, by omega⟩
    refine ⟨o, p, ?_, by omega, by omega⟩
    simp only [spec_l91Set.l0]
    rw [if_neg (by omega)]
  | d + 1, k, j, o, p, hj, hk, h0, h1 => by
    obtain ⟨k, rfl⟩ : ∃ r, k = r + 1 := ⟨k - 1, by omega⟩
    have e : wrap64 ((j : Int) + 1) = ((j + 1 : Nat) : Int) := by rw [w_ _ (by omega) (by omega)]; omega
    obtain ⟨r, er, _⟩ := pick_ok k s p 4 (by omega) hs h0 (by omega)
    simp only [spec_l91Set.l0]
    rw [if_pos (by omega), er, e]
    simp only [Option.bind_some]
    by_cases c : r = 0
    · rw [if_pos c, weight_ k j (by omega) (by omega)]
      simp only [Option.bind_some]
      obtain ⟨n, q, g, g0, g1⟩ := set_loop s hs d k (j + 1) (wrap64 (o + ((2 ^ j : Nat) : Int))) (p + 1) (by omega) (by omega) (by omega) (by omega)
      exact ⟨n, q, g, by omega, by omega⟩
    · rw [if_neg c]
      obtain ⟨n, q, g, g0, g1⟩ := set_loop s hs d k (j + 1) o (p + 1) (by omega) (by omega) (by omega) (by omega)
      exact ⟨n, q, g, by omega, by omega⟩
theorem set_ok (k : Nat) (s : List Int) (p : Int) (hk : 40 ≤ k) (hs : Ok s) (hp : 0 ≤ p) (hp' : p ≤ 10000) : ∃ n q, spec_l91Set.f k s p = some (n, q) ∧ p ≤ q ∧ q ≤ p + 9 := by
  unfold spec_l91Set.f
  obtain ⟨r1, e1, a1, b1, c1⟩ := pick_ok k s p 24 (by omega) hs hp (by omega)
  rw [e1]; simp only [Option.bind_some]
  by_cases h : r1 = 0
  · obtain ⟨r2, e2, a2, b2, c2⟩ := pick_ok k s (p + 1) 3 (by omega) hs (by omega) (by omega)
    rw [if_pos h, e2]; simp only [Option.bind_some, List.length_cons, List.length_nil]
    rw [if_pos a2, if_pos (by have := b2 (by omega); omega)]
    exact ⟨_, _, rfl, by omega, by omega⟩
  · rw [if_neg h]
    obtain ⟨n, q, g, g0, g1⟩ := set_loop s hs 8 k 0 0 (p + 1) (by omega) (by omega) (by omega) (by omega)
    exact ⟨n, q, g, by omega, by omega⟩

/-! ### dharm -/
theorem dharm_ok (k : Nat) (l : List Int) (hk : 60 ≤ k) (hl : ∀ x ∈ l, (Lit.int .u8 x).wf = true) : ∃ L a, spec_DrawFoodsHarm.f k l = some (L, a) ∧ L.length ≤ 7 := by
  unfold spec_DrawFoodsHarm.f
  obtain ⟨s, es, hs⟩ := open_ok l hl
  obtain ⟨L, q, h, h7, q0, q1⟩ := foods_ok k s 0 hk hs (by omega) (by omega)
  obtain ⟨a, q', h', _⟩ := set_ok k s q (by omega) hs (by omega) (by omega)
  rw [es]; simp only [Option.bind_some]
  rw [h]; simp only [Option.bind_some]
  rw [h']
  exact ⟨_, _, rfl, h7⟩

/-! ### sameints -/
theorem same_loop (l : List Int) (hl : l.length ≤ 1000000) : ∀ (d k j : Nat), j + d = l.length → d < k → laws_sameInts.l0 k l l (j : Int) = some true
  | 0, k, j, hj, hk => by
    obtain ⟨k, rfl⟩ : ∃ r, k = r + 1 := ⟨k - 1, by omega⟩
    simp only [laws_sameInts.l0]
    rw [if_neg (by omega)]
  | d + 1, k, j, hj, hk => by
    obtain ⟨k, rfl⟩ : ∃ r, k = r + 1 := ⟨k - 1, by omega⟩
    have e : wrap64 ((j : Int) + 1) = ((j + 1 : Nat) : Int) := by rw [w_ _ (by omega) (by omega)]; omega
    simp only [laws_sameInts.l0, if_true]
    rw [if_pos (by omega), if_pos (by omega), if_pos (by omega), e]
    exact same_loop l hl d k (j + 1) (by omega) (by omega)
theorem same_ints (l : List Int) (hl : l.length ≤ 1000000) (k : Nat) (hk : l.length < k) : laws_sameInts.f k l l = some true := by
  unfold laws_sameInts.f
  rw [if_pos rfl]
  exact same_loop l hl l.length k 0 (by omega) hk

/-! ### am -/
/-- The number of the common allergens of two sets; -1 where a number is invalid. -/
def AM (a b : Int) : Int := if (0 ≤ a ∧ a ≤ 255) ∧ (0 ≤ b ∧ b ≤ 255) then ((a.toNat &&& b.toNat : Nat) : Int) else -1

/-! ### imeet -/
theorem i_meet (a b : Int) : impl_AllergensMeet.f a b = some (AM a b) := by
  unfold impl_AllergensMeet.f AM
  rw [i_set, i_set]
  by_cases h : 0 ≤ a ∧ a ≤ 255
  · by_cases g : 0 ≤ b ∧ b ≤ 255
    · obtain ⟨x, rfl⟩ := Int.eq_ofNat_of_zero_le h.1
      obtain ⟨y, rfl⟩ := Int.eq_ofNat_of_zero_le g.1
      rw [and_nat x y (by omega) (by omega)]
      simp [h, g]
    · simp [h, g]
  · simp [h]

/-! ### cndef -/
/-- How many of the eight allergens a set has. -/
def CN (x : Nat) : Nat := ((List.range 8).filter x.testBit).length

/-! ### kcount -/
set_option maxRecDepth 100000 in
theorem all_kc : ∀ x : Fin 256, (spec_AllergensCount.f 60 (x.val : Int) == some (CN x.val : Int)) = true := by decide +kernel
theorem k_count (k x : Nat) (hk : 60 ≤ k) (hx : x ≤ 255) : spec_AllergensCount.f k (x : Int) = some (CN x : Int) := by
  have h := all_kc ⟨x, by omega⟩
  exact at_rounds (spec_AllergensCount.mono _) hk (by simpa using h)
theorem k_nocount (k : Nat) (a : Int) (h : ¬ (0 ≤ a ∧ a ≤ 255)) : spec_AllergensCount.f k a = some (-1) := by
  unfold spec_AllergensCount.f
  rw [k_set]; simp [h]

/-! ### aj -/
/-- The number of all allergens of two sets; -1 where a number is invalid. -/
def AJ (a b : Int) : Int := if (0 ≤ a ∧ a ≤ 255) ∧ (0 ≤ b ∧ b ≤ 255) then ((a.toNat ||| b.toNat : Nat) : Int) else -1

/-! ### ajfacts -/
theorem or_le (x y : Nat) (hx : x ≤ 255) (hy : y ≤ 255) : x ||| y ≤ 255 := by
  have := Nat.or_lt_two_pow (n := 8) (show x < 2 ^ 8 by omega) (show y < 2 ^ 8 by omega)
  omega
theorem and_le (x y : Nat) (hx : x ≤ 255) : x &&& y ≤ 255 := by
  have := Nat.and_le_left (n := x) (m := y)
  omega
theorem or_or (x y : Nat) : (x ||| y) ||| x = x ||| y := by
  apply Nat.eq_of_testBit_eq; intro i; simp only [Nat.testBit_or]; cases x.testBit i <;> cases y.testBit i <;> rfl
theorem or_and_l (x y : Nat) : (x ||| y) &&& x = x := by
  apply Nat.eq_of_testBit_eq; intro i; simp only [Nat.testBit_or, Nat.testBit_and]; cases x.testBit i <;> cases y.testBit i <;> rfl
theorem or_and_r (x y : Nat) : (x ||| y) &&& y = y := by
  apply Nat.eq_of_testBit_eq; intro i; simp only [Nat.testBit_or, Nat.testBit_and]; cases x.testBit i <;> cases y.testBit i <;> rfl
theorem and_or_l (x y : Nat) : (x &&& y) ||| x = x := by
  apply Nat.eq_of_testBit_eq; intro i; simp only [Nat.testBit_or, Nat.testBit_and]; cases x.testBit i <;> cases y.testBit i <;> rfl
theorem and_or_r (x y : Nat) : (x &&& y) ||| y = y := by
  apply Nat.eq_of_testBit_eq; intro i; simp only [Nat.testBit_or, Nat.testBit_and]; cases x.testBit i <;> cases y.testBit i <;> rfl
theorem aj_nat (x y : Nat) (hx : x ≤ 255) (hy : y ≤ 255) : AJ (x : Int) (y : Int) = ((x ||| y : Nat) : Int) := by
  unfold AJ; rw [if_pos ⟨⟨by omega, by omega⟩, by omega, by omega⟩]; rfl
theorem am_nat (x y : Nat) (hx : x ≤ 255) (hy : y ≤ 255) : AM (x : Int) (y : Int) = ((x &&& y : Nat) : Int) := by
  unfold AM; rw [if_pos ⟨⟨by omega, by omega⟩, by omega, by omega⟩]; rfl
theorem aj_bad (a b : Int) (h : ¬ ((0 ≤ a ∧ a ≤ 255) ∧ (0 ≤ b ∧ b ≤ 255))) : AJ a b = -1 := by
  unfold AJ; rw [if_neg h]
theorem am_bad (a b : Int) (h : ¬ ((0 ≤ a ∧ a ≤ 255) ∧ (0 ≤ b ∧ b ≤ 255))) : AM a b = -1 := by
  unfold AM; rw [if_neg h]

theorem has_loop (l : List Int) (hl : l.length ≤ 1000000) (v : Int) : ∀ (d k j : Nat), j + d = l.length → d < k → v ∈ l.drop j → laws_hasInt.l0 k l v (j : Int) = some true
  | 0, k, j, hj, hk, hv => by
    rw [List.drop_of_length_le (by omega)] at hv
    simp at hv
  | d + 1, k, j, hj, hk, hv => by
    obtain ⟨k, rfl⟩ : ∃ r, k = r + 1 := ⟨k - 1, by omega⟩
    have e : wrap64 ((j : Int) + 1) = ((j + 1 : Nat) : Int) := by rw [w_ _ (by omega) (by omega)]; omega
    have hj' : j < l.length := by omega
    have g : rd l (j : Int) = l[j] := by simp [rd, hj']
    simp only [laws_hasInt.l0]
    rw [if_pos (by omega), if_pos (by omega), g, e]
    by_cases c : l[j] = v
    · rw [if_pos c]
    · rw [if_neg c]
      rw [List.drop_eq_getElem_cons hj', List.mem_cons] at hv
      exact has_loop l hl v d k (j + 1) (by omega) (by omega) (hv.resolve_left (fun z => c z.symm))
theorem sub_mem (l : List S34) (x y c : Nat) (v : Int) (h : v ∈ HL l (x &&& y) c) : v ∈ HL l x c := by
  simp only [HL, List.mem_map, List.mem_filter] at h ⊢
  obtain ⟨i, ⟨a, b⟩, e⟩ := h
  refine ⟨i, ⟨a, ?_⟩, e⟩
  simp only [hit, decide_eq_true_eq] at b ⊢
  intro z
  apply b
  rw [← Nat.and_assoc, z, Nat.zero_and]
theorem no_hits (l : List S34) : ∀ c, HL l 0 c = []
  | 0 => hl_zero l 0
  | c + 1 => by rw [hl_no l 0 c (by simp [hit]), no_hits l c]
theorem more_loop (l : List S34) (h : FV l = true) (o t : List Int) (ho : o.length ≤ 100) (ht : t.length ≤ 100) (hm : ∀ v ∈ t, v ∈ o) : ∀ (d k j : Nat), j + d = t.length → d + 200 < k →
    laws_FnFoodsHarmMore.l0 k l o t (j : Int) = some true
  | 0, k, j, hj, hk => by
    obtain ⟨k, rfl⟩ : ∃ r, k = r + 1 := ⟨k - 1, by omega⟩
    have h6 := fv_len l h
    simp only [laws_FnFoodsHarmMore.l0]
    rw [if_neg (by omega), i_fh l (by omega) 0 k (by omega), show FH l 0 = HL l 0 l.length from if_pos ⟨h, by omega, by omega⟩, no_hits]
    rfl
  | d + 1, k, j, hj, hk => by
    obtain ⟨k, rfl⟩ : ∃ r, k = r + 1 := ⟨k - 1, by omega⟩
    have e : wrap64 ((j : Int) + 1) = ((j + 1 : Nat) : Int) := by rw [w_ _ (by omega) (by omega)]; omega
    have hj' : j < t.length := by omega
    have g : rd t (j : Int) = t[j] := by simp [rd, hj']
    have m : laws_hasInt.f k o t[j] = some true := has_loop o (by omega) _ o.length k 0 (by omega) (by omega) (by simpa using hm _ (List.getElem_mem hj'))
    simp only [laws_FnFoodsHarmMore.l0]
    rw [if_pos (by omega), if_pos (by omega), g, m, e]
    simp only [Option.bind_some, if_true]
    exact more_loop l h o t ho ht hm d k (j + 1) (by omega) (by omega)
theorem FnFoodsHarmMore (l : List Int) (_ : l.length ≤ maxLen) (hl : ∀ x ∈ l, (Lit.int .u8 x).wf = true) (l1 : List Int) (hm : l1.length ≤ maxLen) (_ : ∀ x ∈ l1, (Lit.int .u8 x).wf = true) : ∃ k, laws_FnFoodsHarmMore.f k l l1 = some true := by
  refine ⟨400, ?_⟩
  unfold laws_FnFoodsHarmMore.f
  by_cases c : (l.length : Int) > 1048576
  · rw [if_pos c]
    show laws_FnFoodsHarmMore.j0 (399 + 1) _ _ _ = _
    simp [laws_FnFoodsHarmMore.j0]
  · rw [if_neg c]
    show laws_FnFoodsHarmMore.j0 (399 + 1) _ _ _ = _
    simp only [laws_FnFoodsHarmMore.j0]
    by_cases c1 : (l1.length : Int) > 1048576
    · rw [if_pos (by simp; omega)]
    · obtain ⟨L, a, e, hL⟩ := dharm_ok 399 l (by omega) hl
      have fl := fh_length L a
      rw [if_neg (by simp; omega), e]; simp only [Option.bind_some]
      rw [i_fh L (by omega) a 399 (by omega), k_fh L (by omega) a 399 (by omega)]; simp only [Option.bind_some]
      rw [same_ints _ (by omega) 399 (by omega), k_fv L (by omega) 399 (by omega)]; simp only [Option.bind_some, if_true]
      cases h : FV L with
      | false =>
        rw [show FH L a = [] from if_neg (by simp [h]), if_neg (by simp)]
        show laws_FnFoodsHarmMore.j1 (398 + 1) _ _ _ _ _ _ = _
        simp only [laws_FnFoodsHarmMore.j1, if_true]
        rw [same_ints [] (by simp) 398 (by simp)]
        rfl
      | true =>
        rw [if_pos rfl]
        by_cases g : 0 ≤ a ∧ a ≤ 255
        · obtain ⟨x, rfl⟩ := Int.eq_ofNat_of_zero_le g.1
          have m0 := Int.emod_nonneg (l1.length : Int) (b := 256) (by omega)
          have m1 := Int.emod_lt_of_pos (l1.length : Int) (b := 256) (by omega)
          obtain ⟨y, hy⟩ := Int.eq_ofNat_of_zero_le m0
          have hz := and_le x y (by omega)
          rw [show FH L (x : Int) = HL L x L.length from if_pos ⟨h, g⟩, k_count 399 x (by omega) (by omega)]
          simp only [Option.bind_some]
          show laws_FnFoodsHarmMore.j1 (398 + 1) _ _ _ _ _ _ = _
          simp only [laws_FnFoodsHarmMore.j1]
          rw [if_neg (by simp), i_meet, hy, am_nat x y (by omega) (by omega)]
          simp only [Option.bind_some]
          rw [i_fh L (by omega) _ 398 (by omega), show FH L ((x &&& y : Nat) : Int) = HL L (x &&& y) L.length from if_pos ⟨h, by omega, by omega⟩]
          simp only [Option.bind_some]
          have a1 := hl_length L x L.length
          have a2 := hl_length L (x &&& y) L.length
          exact more_loop L h _ _ (by omega) (by omega) (fun v hv => sub_mem L x y _ v hv) (HL L (x &&& y) L.length).length 398 0 (by omega) (by omega)
        · rw [show FH L a = [] from if_neg (fun z => g z.2), k_nocount 399 a g]
          simp only [Option.bind_some]
          show laws_FnFoodsHarmMore.j1 (398 + 1) _ _ _ _ _ _ = _
          simp only [laws_FnFoodsHarmMore.j1]
          rw [if_pos (by simp), same_ints [] (by simp) 398 (by simp)]
          rfl

end Go.Proofs.Ytmdcfgcbiegofaa.Pure

namespace Go.Proofs.Ytmdcfgcbiegofaa.PrintWords
/-- The printed row looks for the word under this name. -/
abbrev sized_ints := @Go.Proofs.YtmdcfgcbiegofaaW.PrintWords.sized_ints
end Go.Proofs.Ytmdcfgcbiegofaa.PrintWords
