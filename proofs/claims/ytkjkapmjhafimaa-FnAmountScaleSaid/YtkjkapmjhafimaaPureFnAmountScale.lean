/- FnAmountScale answers true at every list of bytes. -/
import Derived.Test.YtkjkapmjhafimaaQFnAmountScale
import Derived.Laws.BitsLemmas
import Derived.Test.YtkjkapmjhafimaaWSized
namespace Go.Proofs.Ytkjkapmjhafimaa.Pure
open Go.RowKit Go.Proofs.Ytkjkapmjhafimaa.PFnAmountScale Go.Proofs.YtkjkapmjhafimaaW.PrintWords Go.Proofs.YtkjkapmjhafimaaW.PrintLast
set_option linter.unusedSimpArgs false
set_option linter.unusedVariables false

/-! ### core -/
theorem k_in (a b c : Int) : spec_l6In.f a b c = some (decide (b ≤ a ∧ a ≤ c)) := by
  unfold spec_l6In.f
  by_cases h : b ≤ a <;> simp [h]
theorem i_in (a b c : Int) : impl_within.f a b c = some (decide (b ≤ a ∧ a ≤ c)) := by
  unfold impl_within.f
  by_cases h : b ≤ a <;> simp [h]
theorem w_ (n : Int) (h : -9223372036854775808 ≤ n) (h' : n ≤ 9223372036854775807) : wrap64 n = n := by unfold wrap64; omega
theorem div_low (a b : Int) (hb : 0 < b) : (a / b) * b ≤ a := Int.ediv_mul_le a (by omega)
theorem div_high (a b : Int) (hb : 0 < b) : a < (a / b) * b + b := by
  have h := Int.lt_ediv_add_one_mul_self a hb
  rw [Int.add_mul] at h
  omega
theorem div_is (a b q : Int) (hb : 0 < b) (h1 : q * b ≤ a) (h2 : a < q * b + b) : a / b = q := by
  have h3 := Int.le_ediv_of_mul_le hb h1
  have h4 : a / b < q + 1 := Int.ediv_lt_of_lt_mul hb (by rw [Int.add_mul]; omega)
  omega

/-! ### valid -/
theorem k_valid (n u : Int) : spec_AmountValid.f n u = some (decide ((0 ≤ n ∧ n ≤ 9999) ∧ (1 ≤ u ∧ u ≤ 3))) := by
  unfold spec_AmountValid.f
  rw [k_in, k_in]
  by_cases h : 0 ≤ n ∧ n ≤ 9999 <;> simp [h]
theorem i_valid (n u : Int) : impl_AmountValid.f n u = some (decide ((0 ≤ n ∧ n ≤ 9999) ∧ (1 ≤ u ∧ u ≤ 3))) := by
  unfold impl_AmountValid.f
  rw [i_in, i_in]
  by_cases h : 0 ≤ n ∧ n ≤ 9999 <;> simp [h]

/-! ### asdef -/
theorem mul_in (a n A N : Int) (h0 : 0 ≤ a) (h1 : a ≤ A) (g0 : 0 ≤ n) (g1 : n ≤ N) : 0 ≤ a * n ∧ a * n ≤ A * N :=
  ⟨Int.mul_nonneg h0 g0, Int.mul_le_mul h1 g1 g0 (by omega)⟩
/-- An amount that is scaled, and whether there is one. -/
def AS (a u n d : Int) : Int × Int × Bool := if (((0 ≤ a ∧ a ≤ 9999) ∧ (1 ≤ u ∧ u ≤ 3)) ∧ (0 ≤ n ∧ n ≤ 999) ∧ (1 ≤ d ∧ d ≤ 999)) ∧ (a * n + d - 1) / d ≤ 9999 then ((a * n + d - 1) / d, u, true) else (0, 0, false)

/-! ### iup -/
theorem i_up (n d : Int) (h0 : 0 ≤ n) (h1 : n ≤ 100000000) (h2 : 1 ≤ d) (h3 : d ≤ 100000) : impl_roundedUp.f n d = some ((n + d - 1) / d) := by
  unfold impl_roundedUp.f
  have e : wrap64 (wrap64 (n + d) - 1) = n + d - 1 := by rw [w_ (n + d) (by omega) (by omega)]; exact w_ _ (by omega) (by omega)
  have a := Int.ediv_nonneg (a := n + d - 1) (b := d) (by omega) (by omega)
  have b := Int.ediv_le_self (a := n + d - 1) d (by omega)
  rw [if_neg (by omega), e, Int.tdiv_eq_ediv_of_nonneg (by omega), w_ _ (by omega) (by omega)]

/-! ### ias -/
theorem i_scale (k : Nat) (a u n d : Int) (hk : 1 ≤ k) : impl_AmountScale.f k a u n d = some (AS a u n d) := by
  obtain ⟨k, rfl⟩ : ∃ m, k = m + 1 := ⟨k - 1, by omega⟩
  unfold impl_AmountScale.f AS
  rw [i_valid, i_in, i_in]
  by_cases h : (0 ≤ a ∧ a ≤ 9999) ∧ (1 ≤ u ∧ u ≤ 3)
  · by_cases g : 0 ≤ n ∧ n ≤ 999
    · by_cases c : 1 ≤ d ∧ d ≤ 999
      · obtain ⟨m0, m1⟩ := mul_in a n 9999 999 (by omega) (by omega) (by omega) (by omega)
        simp only [Option.bind_some, decide_eq_true h, decide_eq_true g, decide_eq_true c, if_true, Bool.not_true, impl_AmountScale.j0]
        rw [if_neg (by simp), w_ (a * n) (by omega) (by omega), i_up _ _ m0 (by omega) (by omega) (by omega)]
        simp only [Option.bind_some]
        have q0 := Int.ediv_nonneg (a := a * n + d - 1) (b := d) (by omega) (by omega)
        generalize (a * n + d - 1) / d = q at *
        rw [i_valid]
        by_cases e : q ≤ 9999
        · rw [if_pos ⟨⟨h, g, c⟩, e⟩, decide_eq_true (⟨⟨q0, e⟩, h.2⟩ : (0 ≤ q ∧ q ≤ 9999) ∧ (1 ≤ u ∧ u ≤ 3))]
          simp
        · rw [if_neg (fun x => e x.2), decide_eq_false (fun x : (0 ≤ q ∧ q ≤ 9999) ∧ (1 ≤ u ∧ u ≤ 3) => e x.1.2)]
          simp
      · rw [if_neg (fun x => c x.1.2.2)]
        simp [decide_eq_true h, decide_eq_true g, decide_eq_false c, impl_AmountScale.j0]
    · rw [if_neg (fun x => g x.1.2.1)]
      simp [decide_eq_true h, decide_eq_false g, impl_AmountScale.j0]
  · rw [if_neg (fun x => h x.1.1)]
    simp [decide_eq_false h, impl_AmountScale.j0]

/-! ### kup -/
theorem k_up (n d : Int) (h0 : 0 ≤ n) (h1 : n ≤ 100000000) (h2 : 1 ≤ d) (h3 : d ≤ 100000) : spec_l1Up.f n d = some ((n + d - 1) / d) := by
  unfold spec_l1Up.f
  have e : wrap64 (wrap64 (n + d) - 1) = n + d - 1 := by rw [w_ (n + d) (by omega) (by omega)]; exact w_ _ (by omega) (by omega)
  have a := Int.ediv_nonneg (a := n + d - 1) (b := d) (by omega) (by omega)
  have b := Int.ediv_le_self (a := n + d - 1) d (by omega)
  rw [if_neg (by omega), e, Int.tdiv_eq_ediv_of_nonneg (by omega), w_ _ (by omega) (by omega)]

/-! ### kas -/
theorem k_scale (k : Nat) (a u n d : Int) (hk : 1 ≤ k) : spec_AmountScale.f k a u n d = some (AS a u n d) := by
  obtain ⟨k, rfl⟩ : ∃ m, k = m + 1 := ⟨k - 1, by omega⟩
  unfold spec_AmountScale.f AS
  rw [k_valid, k_in, k_in]
  by_cases h : (0 ≤ a ∧ a ≤ 9999) ∧ (1 ≤ u ∧ u ≤ 3)
  · by_cases g : 0 ≤ n ∧ n ≤ 999
    · by_cases c : 1 ≤ d ∧ d ≤ 999
      · obtain ⟨m0, m1⟩ := mul_in a n 9999 999 (by omega) (by omega) (by omega) (by omega)
        simp only [Option.bind_some, decide_eq_true h, decide_eq_true g, decide_eq_true c, if_true, Bool.not_true, spec_AmountScale.j0]
        rw [if_neg (by simp), w_ (a * n) (by omega) (by omega), k_up _ _ m0 (by omega) (by omega) (by omega)]
        simp only [Option.bind_some]
        have q0 := Int.ediv_nonneg (a := a * n + d - 1) (b := d) (by omega) (by omega)
        generalize (a * n + d - 1) / d = q at *
        rw [k_valid]
        by_cases e : q ≤ 9999
        · rw [if_pos ⟨⟨h, g, c⟩, e⟩, decide_eq_true (⟨⟨q0, e⟩, h.2⟩ : (0 ≤ q ∧ q ≤ 9999) ∧ (1 ≤ u ∧ u ≤ 3))]
          simp
        · rw [if_neg (fun x => e x.2), decide_eq_false (fun x : (0 ≤ q ∧ q ≤ 9999) ∧ (1 ≤ u ∧ u ≤ 3) => e x.1.2)]
          simp
      · rw [if_neg (fun x => c x.1.2.2)]
        simp [decide_eq_true h, decide_eq_true g, decide_eq_false c, spec_AmountScale.j0]
    · rw [if_neg (fun x => g x.1.2.1)]
      simp [decide_eq_true h, decide_eq_false g, spec_AmountScale.j0]
  · rw [if_neg (fun x => h x.1.1)]
    simp [decide_eq_false h, spec_AmountScale.j0]

/-! ### as -/


/-! ### pick -/
/-- What a reader of draws holds: at most 2000 bytes. -/
def Ok (s : List Int) : Prop := s.length ≤ 2000 ∧ ∀ x ∈ s, 0 ≤ x ∧ x ≤ 255
theorem rd_ok {s : List Int} (h : Ok s) (i : Int) : 0 ≤ rd s i ∧ rd s i ≤ 255 := by
  unfold rd
  rw [List.getD_eq_getElem?_getD]
  cases e : s[i.toNat]? with
  | none => simp
  | some x => simpa using h.2 x (List.mem_of_getElem? e)
theorem xor_nonneg (x y : Int) (hx : 0 ≤ x) (hx' : x < 9223372036854775808) (hy : 0 ≤ y) (hy' : y < 9223372036854775808) : 0 ≤ Go.bits .xor .i64 x y := by
  obtain ⟨a, rfl⟩ := Int.eq_ofNat_of_zero_le hx
  obtain ⟨b, rfl⟩ := Int.eq_ofNat_of_zero_le hy
  have ha : a < 2 ^ 63 := by omega
  have hb : b < 2 ^ 63 := by omega
  have hc := Nat.xor_lt_two_pow ha hb
  have e1 : a % 2 ^ IntKind.i64.bits = a := Nat.mod_eq_of_lt (Nat.lt_of_lt_of_le ha (Nat.pow_le_pow_right (by decide) (by decide)))
  have e2 : b % 2 ^ IntKind.i64.bits = b := Nat.mod_eq_of_lt (Nat.lt_of_lt_of_le hb (Nat.pow_le_pow_right (by decide) (by decide)))
  simp only [Go.bits, BitVec.ofInt_natCast, BitVec.toNat_xor, BitVec.toNat_ofNat, e1, e2]
  rw [Go.IntKind.wrap_i64]
  omega
theorem pick_ok (k : Nat) (s : List Int) (p n : Int) (hk : 1 ≤ k) (hs : Ok s) (hp : 0 ≤ p) (hp' : p ≤ 1000000) :
    ∃ r, spec_l6Rd_pick.f k s p n = some (r, p + 1) ∧ 0 ≤ r ∧ (1 ≤ n → r < n) ∧ (n < 1 → r = 0) := by
  obtain ⟨k, rfl⟩ : ∃ m, k = m + 1 := ⟨k - 1, by omega⟩
  unfold spec_l6Rd_pick.f
  have e : wrap64 (p + 1) = p + 1 := w_ _ (by omega) (by omega)
  have e' : wrap64 (p + 1 - 1) = p := by rw [w_ _ (by omega) (by omega)]; omega
  rw [e]
  by_cases hn : n < 1
  · rw [if_pos hn]
    refine ⟨0, ?_, by omega, by omega, by omega⟩
    simp [spec_l6Rd_pick.j0]
  · rw [if_neg hn]
    by_cases hl : (s.length : Int) = 0
    · rw [beq_iff_eq.mpr hl]
      refine ⟨0, ?_, by omega, by omega, by omega⟩
      simp [spec_l6Rd_pick.j0]
    · rw [beq_eq_false_iff_ne.mpr hl]
      have hl' : (s.length : Int) ≤ 2000 := by have := hs.1; omega
      simp only [spec_l6Rd_pick.j0, e']
      rw [if_neg (by simp)]
      by_cases c : p < (s.length : Int)
      · rw [if_pos c, if_pos hp, if_neg (by omega)]
        obtain ⟨r0, r1⟩ := rd_ok hs p
        rw [w_ (rd s p) (by omega) (by omega)]
        exact ⟨_, rfl, Int.tmod_nonneg _ r0, fun _ => Int.tmod_lt_of_pos _ (by omega), by omega⟩
      · have a1 := Int.tmod_nonneg (s.length : Int) hp
        have a2 := Int.tmod_lt_of_pos p (b := (s.length : Int)) (by omega)
        have a3 : wrap64 (wrap64 (p * 7) + 3) = p * 7 + 3 := by rw [w_ (p * 7) (by omega) (by omega), w_ _ (by omega) (by omega)]
        have a4 := Int.tmod_nonneg (s.length : Int) (a := p * 7 + 3) (by omega)
        have a5 := Int.tmod_lt_of_pos (p * 7 + 3) (b := (s.length : Int)) (by omega)
        rw [if_neg c, if_neg hl, if_pos a1, if_pos a2, a3, if_pos a4, if_pos a5, if_neg (by omega)]
        obtain ⟨r0, r1⟩ := rd_ok hs (Int.tmod p (s.length : Int))
        obtain ⟨q0, q1⟩ := rd_ok hs (Int.tmod (p * 7 + 3) (s.length : Int))
        generalize rd s (Int.tmod p (s.length : Int)) = A at *
        generalize rd s (Int.tmod (p * 7 + 3) (s.length : Int)) = B at *
        have d0 : 0 ≤ Int.tdiv p (s.length : Int) := Int.tdiv_nonneg hp (by omega)
        have d1 : Int.tdiv p (s.length : Int) ≤ p := by rw [Int.tdiv_eq_ediv_of_nonneg hp]; exact Int.ediv_le_self _ hp
        generalize Int.tdiv p (s.length : Int) = D at *
        simp (disch := omega) only [w_]
        have x0 : 0 ≤ A * 131 + B * 1117 + p * 29 + D * 53 := by omega
        have x1 : A * 131 + B * 1117 + p * 29 + D * 53 ≤ 100000000 := by omega
        generalize A * 131 + B * 1117 + p * 29 + D * 53 = X at *
        have y0 : 0 ≤ Int.tdiv X 64 := Int.tdiv_nonneg x0 (by omega)
        have y1 : Int.tdiv X 64 ≤ X := by rw [Int.tdiv_eq_ediv_of_nonneg x0]; exact Int.ediv_le_self _ x0
        simp (disch := omega) only [w_]
        exact ⟨_, rfl, Int.tmod_nonneg _ (xor_nonneg _ _ (by omega) (by omega) (by omega) (by omega)), fun _ => Int.tmod_lt_of_pos _ (by omega), by omega⟩
theorem open_ok (l : List Int) (h : ∀ x ∈ l, (Lit.int .u8 x).wf = true) : ∃ s, spec_l6Open.f l = some (s, 0) ∧ Ok s := by
  have b : ∀ x ∈ l, 0 ≤ x ∧ x ≤ 255 := fun x hx => by
    have := h x hx
    simp [Lit.wf, IntKind.min, IntKind.max, IntKind.bits, IntKind.signed] at this
    omega
  unfold spec_l6Open.f
  by_cases c : (l.length : Int) > 2000
  · rw [if_pos c, if_pos (by omega)]
    exact ⟨_, rfl, by rw [List.length_take]; omega, fun x hx => b x (List.mem_of_mem_take hx)⟩
  · rw [if_neg c]
    exact ⟨_, rfl, by omega, b⟩

/-! ### damount -/
theorem amount_ok (k : Nat) (s : List Int) (p : Int) (hk : 1 ≤ k) (hs : Ok s) (hp : 0 ≤ p) (hp' : p ≤ 10000) : ∃ n u q, spec_l91Amount.f k s p = some (n, u, q) ∧ p ≤ q ∧ q ≤ p + 5 := by
  unfold spec_l91Amount.f
  obtain ⟨r1, e1, a1, b1, c1⟩ := pick_ok k s p 100 hk hs hp (by omega)
  obtain ⟨r2, e2, a2, b2, c2⟩ := pick_ok k s (p + 1) 60 hk hs (by omega) (by omega)
  obtain ⟨r3, e3, a3, b3, c3⟩ := pick_ok k s (p + 1 + 1) 3 hk hs (by omega) (by omega)
  obtain ⟨r4, e4, a4, b4, c4⟩ := pick_ok k s (p + 1 + 1 + 1) 24 hk hs (by omega) (by omega)
  rw [e1]; simp only [Option.bind_some]
  rw [e2]; simp only [Option.bind_some]
  rw [e3]; simp only [Option.bind_some]
  rw [e4]; simp only [Option.bind_some]
  by_cases h : r4 = 0
  · obtain ⟨r5, e5, a5, b5, c5⟩ := pick_ok k s (p + 1 + 1 + 1 + 1) 3 hk hs (by omega) (by omega)
    rw [if_pos h, e5]; simp only [Option.bind_some, List.length_cons, List.length_nil]
    rw [if_pos a5, if_pos (by have := b5 (by omega); omega)]
    exact ⟨_, _, _, rfl, by omega, by omega⟩
  · rw [if_neg h]
    by_cases g : r4 = 1
    · obtain ⟨r5, e5, a5, b5, c5⟩ := pick_ok k s (p + 1 + 1 + 1 + 1) 2 hk hs (by omega) (by omega)
      rw [if_pos g, e5]; simp only [Option.bind_some]
      exact ⟨_, _, _, rfl, by omega, by omega⟩
    · rw [if_neg g]
      exact ⟨_, _, _, rfl, by omega, by omega⟩

/-! ### dscale -/
theorem dscale_ok (k : Nat) (l : List Int) (hk : 1 ≤ k) (hl : ∀ x ∈ l, (Lit.int .u8 x).wf = true) : ∃ a u n d, spec_DrawAmountScale.f k l = some (a, u, n, d) := by
  unfold spec_DrawAmountScale.f
  obtain ⟨s, es, hs⟩ := open_ok l hl
  obtain ⟨a, u, p, e1, p1, p2⟩ := amount_ok k s 0 hk hs (by omega) (by omega)
  obtain ⟨r, e2, _⟩ := pick_ok k s p 10 hk hs (by omega) (by omega)
  rw [es]; simp only [Option.bind_some]
  rw [e1]; simp only [Option.bind_some]
  rw [e2]; simp only [Option.bind_some]
  by_cases h : r = 0
  · obtain ⟨r3, e3, a3, b3, c3⟩ := pick_ok k s (p + 1) 4 hk hs (by omega) (by omega)
    obtain ⟨r4, e4, a4, b4, c4⟩ := pick_ok k s (p + 1 + 1) 4 hk hs (by omega) (by omega)
    rw [if_pos h, e3]; simp only [Option.bind_some, List.length_cons, List.length_nil]
    rw [if_pos a3, if_pos (by have := b3 (by omega); omega), e4]; simp only [Option.bind_some]
    rw [if_pos a4, if_pos (by have := b4 (by omega); omega)]
    exact ⟨_, _, _, _, rfl⟩
  · obtain ⟨r3, e3, a3, b3, c3⟩ := pick_ok k s (p + 1) 40 hk hs (by omega) (by omega)
    obtain ⟨r4, e4, a4, b4, c4⟩ := pick_ok k s (p + 1 + 1) 30 hk hs (by omega) (by omega)
    rw [if_neg h, e3]; simp only [Option.bind_some]
    rw [e4]; simp only [Option.bind_some]
    exact ⟨_, _, _, _, rfl⟩

theorem FnAmountScale (l : List Int) (_ : l.length ≤ maxLen) (hl : ∀ x ∈ l, (Lit.int .u8 x).wf = true) : ∃ k, laws_FnAmountScale.f k l = some true := by
  refine ⟨1, ?_⟩
  unfold laws_FnAmountScale.f
  by_cases c : (l.length : Int) > 1048576
  · rw [if_pos c]
  · obtain ⟨a, u, n, d, e⟩ := dscale_ok 1 l (by omega) hl
    rw [if_neg c, e]; simp only [Option.bind_some]
    rw [i_scale 1 _ _ _ _ (by omega), k_scale 1 _ _ _ _ (by omega)]
    by_cases h : (((0 ≤ a ∧ a ≤ 9999) ∧ (1 ≤ u ∧ u ≤ 3)) ∧ (0 ≤ n ∧ n ≤ 999) ∧ (1 ≤ d ∧ d ≤ 999)) ∧ (a * n + d - 1) / d ≤ 9999
    · have e1 : AS a u n d = ((a * n + d - 1) / d, u, true) := by unfold AS; rw [if_pos h]
      obtain ⟨m0, m1⟩ := mul_in a n 9999 999 (by omega) (by omega) (by omega) (by omega)
      have q0 := Int.ediv_nonneg (a := a * n + d - 1) (b := d) (by omega) (by omega)
      have lo := div_low (a * n + d - 1) d (by omega)
      have hi := div_high (a * n + d - 1) d (by omega)
      rw [e1]; clear e1
      generalize (a * n + d - 1) / d = q at *
      have e2 : (q - 1) * d = q * d - d := by rw [Int.sub_mul, Int.one_mul]
      simp only [Option.bind_some]
      rw [w_ (q * d) (by omega) (by omega), w_ (a * n) (by omega) (by omega), w_ (q - 1) (by omega) (by omega), e2, w_ (q * d - d) (by omega) (by omega)]
      simp only [bne_self_eq_false, beq_self_eq_true, Bool.not_true, Bool.or_self, Bool.false_eq_true, if_false, if_true]
      rw [if_pos (by omega), if_pos (by omega)]
    · have e1 : AS a u n d = (0, 0, false) := by unfold AS; rw [if_neg h]
      rw [e1]; simp

end Go.Proofs.Ytkjkapmjhafimaa.Pure

namespace Go.Proofs.Ytkjkapmjhafimaa.PrintWords
/-- The printed row looks for the word under this name. -/
abbrev sized_ints := @Go.Proofs.YtkjkapmjhafimaaW.PrintWords.sized_ints
end Go.Proofs.Ytkjkapmjhafimaa.PrintWords
