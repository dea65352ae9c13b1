/- FnVessels answers true at every list of bytes. -/
import Derived.Test.YtpcclmgcnomgeaaPFnVesselsx3
import Derived.Laws.BitsLemmas
import Derived.Test.YtpcclmgcnomgeaaWSized
namespace Go.Proofs.Ytpcclmgcnomgeaa.Pure
open Go.RowKit Go.Proofs.Ytpcclmgcnomgeaa.PFnVessels Go.Proofs.YtpcclmgcnomgeaaW.PrintWords Go.Proofs.YtpcclmgcnomgeaaW.PrintLast
set_option linter.unusedSimpArgs false
set_option linter.unusedVariables false

/-! ### core -/
theorem k_in (a b c : Int) : spec_l6In.f a b c = some (decide (b ≤ a ∧ a ≤ c)) := by
  unfold spec_l6In.f
  by_cases h : b ≤ a <;> simp [h]
theorem i_in (a b c : Int) : impl_within.f a b c = some (decide (b ≤ a ∧ a ≤ c)) := by
  unfold impl_within.f
  by_cases h : b ≤ a <;> simp [h]
theorem w_ (n : Int) (h : -9223372036854775808 ≤ n) (h' : n ≤ 9223372036854775807) : wrap64 n = n := by unfold wrap64; omega
theorem div_low (a b : Int) (hb : 0 < b) : (a / b) * b ≤ a := Int.ediv_mul_le a (by omega)
theorem div_high (a b : Int) (hb : 0 < b) : a < (a / b) * b + b := by
  have h := Int.lt_ediv_add_one_mul_self a hb
  rw [Int.add_mul] at h
  omega
theorem div_is (a b q : Int) (hb : 0 < b) (h1 : q * b ≤ a) (h2 : a < q * b + b) : a / b = q := by
  have h3 := Int.le_ediv_of_mul_le hb h1
  have h4 : a / b < q + 1 := Int.ediv_lt_of_lt_mul hb (by rw [Int.add_mul]; omega)
  omega

/-! ### okay -/
theorem k_ok (n p : Int) : spec_l2Ok.f n p = some (decide ((0 ≤ n ∧ n ≤ 9999) ∧ (1 ≤ p ∧ p ≤ 999))) := by
  unfold spec_l2Ok.f
  rw [k_in, k_in]
  by_cases h : 0 ≤ n ∧ n ≤ 9999 <;> simp [h]
theorem i_am (n : Int) : impl_isAmount.f n = some (decide (0 ≤ n ∧ n ≤ 9999)) := by
  unfold impl_isAmount.f
  rw [i_in]; rfl
theorem i_size (n : Int) : impl_isSize.f n = some (decide (1 ≤ n ∧ n ≤ 999)) := by
  unfold impl_isSize.f
  rw [i_in]; rfl

/-! ### pf -/
/-- The least number of packages; -1 where an argument is invalid. -/
def PF (n p : Int) : Int := if (0 ≤ n ∧ n ≤ 9999) ∧ (1 ≤ p ∧ p ≤ 999) then (n + p - 1) / p else -1

/-! ### iup -/
theorem i_up (n d : Int) (h0 : 0 ≤ n) (h1 : n ≤ 100000000) (h2 : 1 ≤ d) (h3 : d ≤ 100000) : impl_roundedUp.f n d = some ((n + d - 1) / d) := by
  unfold impl_roundedUp.f
  have e : wrap64 (wrap64 (n + d) - 1) = n + d - 1 := by rw [w_ (n + d) (by omega) (by omega)]; exact w_ _ (by omega) (by omega)
  have a := Int.ediv_nonneg (a := n + d - 1) (b := d) (by omega) (by omega)
  have b := Int.ediv_le_self (a := n + d - 1) d (by omega)
  rw [if_neg (by omega), e, Int.tdiv_eq_ediv_of_nonneg (by omega), w_ _ (by omega) (by omega)]

/-! ### ipf -/
theorem i_pf (n p : Int) : impl_PacksFor.f n p = some (PF n p) := by
  unfold impl_PacksFor.f PF
  rw [i_am, i_size]
  by_cases h : 0 ≤ n ∧ n ≤ 9999
  · by_cases g : 1 ≤ p ∧ p ≤ 999
    · simp [h, g, i_up n p (by omega) (by omega) (by omega) (by omega)]
    · simp [h, g]
  · simp [h]

/-! ### kup -/
theorem k_up (n d : Int) (h0 : 0 ≤ n) (h1 : n ≤ 100000000) (h2 : 1 ≤ d) (h3 : d ≤ 100000) : spec_l1Up.f n d = some ((n + d - 1) / d) := by
  unfold spec_l1Up.f
  have e : wrap64 (wrap64 (n + d) - 1) = n + d - 1 := by rw [w_ (n + d) (by omega) (by omega)]; exact w_ _ (by omega) (by omega)
  have a := Int.ediv_nonneg (a := n + d - 1) (b := d) (by omega) (by omega)
  have b := Int.ediv_le_self (a := n + d - 1) d (by omega)
  rw [if_neg (by omega), e, Int.tdiv_eq_ediv_of_nonneg (by omega), w_ _ (by omega) (by omega)]

/-! ### vessels -/
/-- What vessel j holds. -/
def VE (n m : Int) (j : Nat) : Int := if (j : Int) < n % m then n / m + 1 else n / m
/-- The first c vessels. -/
def VL (n m : Int) (c : Nat) : List Int := (List.range c).map (VE n m)
theorem vl_succ (n m : Int) (c : Nat) : VL n m (c + 1) = VL n m c ++ [VE n m c] := by
  simp [VL, List.range_succ]
theorem vl_length (n m : Int) (c : Nat) : (VL n m c).length = c := by simp [VL]
theorem vl_zero (n m : Int) : VL n m 0 = [] := by simp [VL]
theorem rd_vl (n m : Int) (c j : Nat) (h : j < c) : rd (VL n m c) (j : Int) = VE n m j := by
  simp [rd, VL, h]
/-- The vessels of an amount; none where an argument is invalid or there would be too many. -/
def VF (n z : Int) : List Int := if 1 ≤ PF n z ∧ PF n z ≤ 20 then VL n (PF n z) (PF n z).toNat else []
theorem pf_cases (n z : Int) : (PF n z = -1 ∧ ¬ ((0 ≤ n ∧ n ≤ 9999) ∧ (1 ≤ z ∧ z ≤ 999))) ∨ (PF n z = (n + z - 1) / z ∧ ((0 ≤ n ∧ n ≤ 9999) ∧ (1 ≤ z ∧ z ≤ 999)) ∧ 0 ≤ PF n z ∧ PF n z ≤ 11000) := by
  unfold PF
  by_cases h : (0 ≤ n ∧ n ≤ 9999) ∧ (1 ≤ z ∧ z ≤ 999)
  · have a := Int.ediv_nonneg (a := n + z - 1) (b := z) (by omega) (by omega)
    have b := Int.ediv_le_self (a := n + z - 1) z (by omega)
    rw [if_pos h]
    exact .inr ⟨rfl, h, a, by omega⟩
  · rw [if_neg h]
    exact .inl ⟨rfl, h⟩
theorem vf_length (n z : Int) : (VF n z).length ≤ 20 := by
  unfold VF
  split
  · rw [vl_length]; omega
  · simp
theorem ve_vals (n m : Int) (hn : 0 ≤ n) (hn' : n ≤ 9999) (hm : 1 ≤ m) : Int.tdiv n m = n / m ∧ Int.tmod n m = n % m ∧ 0 ≤ n / m ∧ n / m ≤ 9999 := by
  have b := Int.ediv_le_self (a := n) m hn
  exact ⟨Int.tdiv_eq_ediv_of_nonneg hn, Int.tmod_eq_emod_of_nonneg hn, Int.ediv_nonneg hn (by omega), by omega⟩
theorem iv_loop (n m : Int) (hn : 0 ≤ n) (hn' : n ≤ 9999) (hm : 1 ≤ m) (hm' : m ≤ 20) : ∀ (d k j : Nat), (j : Int) + d = m → d < k →
    impl_VesselsFor.l0 k n m (VL n m j) (j : Int) = some (VL n m m.toNat)
  | 0, k, j, hj, hk => by
    obtain ⟨k, rfl⟩ : ∃ r, k = r + 1 := ⟨k - 1, by omega⟩
    obtain rfl : j = m.toNat := by omega
    simp only [impl_VesselsFor.l0]
    rw [if_neg (by omega)]
  | d + 1, k, j, hj, hk => by
    obtain ⟨k, rfl⟩ : ∃ r, k = r + 1 := ⟨k - 1, by omega⟩
    obtain ⟨e1, e2, q0, q1⟩ := ve_vals n m hn hn' hm
    have e : wrap64 ((j : Int) + 1) = ((j + 1 : Nat) : Int) := by rw [w_ _ (by omega) (by omega)]; omega
    have r := iv_loop n m hn hn' hm hm' d k (j + 1) (by omega) (by omega)
    simp only [impl_VesselsFor.l0]
    rw [if_pos (by omega), if_neg (by omega), e1, e2, e, w_ (n / m) (by omega) (by omega), w_ (n / m + 1) (by omega) (by omega)]
    rw [vl_succ] at r
    by_cases c : (j : Int) < n % m
    · rw [if_pos c, if_pos (by rw [vl_length]; omega)]
      rw [show VE n m j = n / m + 1 from if_pos c] at r
      exact r
    · rw [if_neg c, if_pos (by rw [vl_length]; omega)]
      rw [show VE n m j = n / m from if_neg c] at r
      exact r
theorem kv_loop (n m : Int) (hn : 0 ≤ n) (hn' : n ≤ 9999) (hm : 1 ≤ m) (hm' : m ≤ 20) : ∀ (d k j : Nat), (j : Int) + d = m → d < k →
    spec_VesselsFor.l0 k n (VL n m j) m (j : Int) = some (VL n m m.toNat)
  | 0, k, j, hj, hk => by
    obtain ⟨k, rfl⟩ : ∃ r, k = r + 1 := ⟨k - 1, by omega⟩
    obtain rfl : j = m.toNat := by omega
    simp only [spec_VesselsFor.l0]
    rw [if_neg (by omega)]
  | d + 1, k, j, hj, hk => by
    obtain ⟨k, rfl⟩ : ∃ r, k = r + 1 := ⟨k - 1, by omega⟩
    obtain ⟨e1, e2, q0, q1⟩ := ve_vals n m hn hn' hm
    have e : wrap64 ((j : Int) + 1) = ((j + 1 : Nat) : Int) := by rw [w_ _ (by omega) (by omega)]; omega
    have r := kv_loop n m hn hn' hm hm' d k (j + 1) (by omega) (by omega)
    simp only [spec_VesselsFor.l0]
    rw [if_pos (by omega), if_neg (by omega), e1, e2, e, w_ (n / m) (by omega) (by omega), w_ (n / m + 1) (by omega) (by omega)]
    rw [vl_succ] at r
    by_cases c : (j : Int) < n % m
    · rw [if_pos c, if_pos (by rw [vl_length]; omega)]
      rw [show VE n m j = n / m + 1 from if_pos c] at r
      exact r
    · rw [if_neg c, if_pos (by rw [vl_length]; omega)]
      rw [show VE n m j = n / m from if_neg c] at r
      exact r
theorem i_vf (k : Nat) (n z : Int) (hk : 40 ≤ k) : impl_VesselsFor.f k n z = some (VF n z) := by
  unfold impl_VesselsFor.f
  rw [i_pf]; simp only [Option.bind_some]
  by_cases h : 1 ≤ PF n z ∧ PF n z ≤ 20
  · rw [show VF n z = VL n (PF n z) (PF n z).toNat from if_pos h, if_neg (by omega)]
    rcases pf_cases n z with ⟨g, _⟩ | ⟨_, g, _⟩
    · omega
    · have r := iv_loop n (PF n z) g.1.1 g.1.2 h.1 h.2 (PF n z).toNat k 0 (by omega) (by omega)
      rw [vl_zero] at r
      exact r
  · rw [show VF n z = [] from if_neg h]
    by_cases g : PF n z > 20
    · rw [if_pos g]
    · rw [if_neg g]
      obtain ⟨k, rfl⟩ : ∃ r, k = r + 1 := ⟨k - 1, by omega⟩
      simp only [impl_VesselsFor.l0]
      rw [if_neg (by omega)]
theorem k_vf (k : Nat) (n z : Int) (hk : 40 ≤ k) : spec_VesselsFor.f k n z = some (VF n z) := by
  obtain ⟨k, rfl⟩ : ∃ r, k = r + 1 := ⟨k - 1, by omega⟩
  unfold spec_VesselsFor.f
  rw [k_ok]; simp only [Option.bind_some]
  rcases pf_cases n z with ⟨e, g⟩ | ⟨e, g, g0, g1⟩
  · rw [show VF n z = [] from if_neg (by omega), decide_eq_false g, if_neg (by simp)]
    simp [spec_VesselsFor.j0]
  · rw [decide_eq_true g, if_pos rfl, k_up n z (by omega) (by omega) (by omega) (by omega)]
    simp only [Option.bind_some, spec_VesselsFor.j0]
    rw [k_up n z (by omega) (by omega) (by omega) (by omega), ← e]
    simp only [Option.bind_some]
    by_cases h : 1 ≤ PF n z ∧ PF n z ≤ 20
    · rw [show VF n z = VL n (PF n z) (PF n z).toNat from if_pos h, if_neg (by simp; omega)]
      have r := kv_loop n (PF n z) g.1.1 g.1.2 h.1 h.2 (PF n z).toNat k 0 (by omega) (by omega)
      rw [vl_zero] at r
      exact r
    · rw [show VF n z = [] from if_neg h]
      by_cases c : PF n z > 20
      · rw [if_pos (by simp; omega)]
      · rw [if_neg (by simp; omega)]
        obtain ⟨k, rfl⟩ : ∃ r, k = r + 1 := ⟨k - 1, by omega⟩
        simp only [spec_VesselsFor.l0]
        rw [if_neg (by omega)]

/-! ### sameints -/
theorem same_loop (l : List Int) (hl : l.length ≤ 1000000) : ∀ (d k j : Nat), j + d = l.length → d < k → laws_sameInts.l0 k l l (j : Int) = some true
  | 0, k, j, hj, hk => by
    obtain ⟨k, rfl⟩ : ∃ r, k = r + 1 := ⟨k - 1, by omega⟩
    simp only [laws_sameInts.l0]
    rw [if_neg (by omega)]
  | d + 1, k, j, hj, hk => by
    obtain ⟨k, rfl⟩ : ∃ r, k = r + 1 := ⟨k - 1, by omega⟩
    have e : wrap64 ((j : Int) + 1) = ((j + 1 : Nat) : Int) := by rw [w_ _ (by omega) (by omega)]; omega
    simp only [laws_sameInts.l0, if_true]
    rw [if_pos (by omega), if_pos (by omega), if_pos (by omega), e]
    exact same_loop l hl d k (j + 1) (by omega) (by omega)
theorem same_ints (l : List Int) (hl : l.length ≤ 1000000) (k : Nat) (hk : l.length < k) : laws_sameInts.f k l l = some true := by
  unfold laws_sameInts.f
  rw [if_pos rfl]
  exact same_loop l hl l.length k 0 (by omega) hk

/-! ### pick -/
/-- What a reader of draws holds: at most 2000 bytes. -/
def Ok (s : List Int) : Prop := s.length ≤ 2000 ∧ ∀ x ∈ s, 0 ≤ x ∧ x ≤ 255
theorem rd_ok {s : List Int} (h : Ok s) (i : Int) : 0 ≤ rd s i ∧ rd s i ≤ 255 := by
  unfold rd
  rw [List.getD_eq_getElem?_getD]
  cases e : s[i.toNat]? with
  | none => simp
  | some x => simpa using h.2 x (List.mem_of_getElem? e)
theorem xor_nonneg (x y : Int) (hx : 0 ≤ x) (hx' : x < 9223372036854775808) (hy : 0 ≤ y) (hy' : y < 9223372036854775808) : 0 ≤ Go.bits .xor .i64 x y := by
  obtain ⟨a, rfl⟩ := Int.eq_ofNat_of_zero_le hx
  obtain ⟨b, rfl⟩ := Int.eq_ofNat_of_zero_le hy
  have ha : a < 2 ^ 63 := by omega
  have hb : b < 2 ^ 63 := by omega
  have hc := Nat.xor_lt_two_pow ha hb
  have e1 : a % 2 ^ IntKind.i64.bits = a := Nat.mod_eq_of_lt (Nat.lt_of_lt_of_le ha (Nat.pow_le_pow_right (by decide) (by decide)))
  have e2 : b % 2 ^ IntKind.i64.bits = b := Nat.mod_eq_of_lt (Nat.lt_of_lt_of_le hb (Nat.pow_le_pow_right (by decide) (by decide)))
  simp only [Go.bits, BitVec.ofInt_natCast, BitVec.toNat_xor, BitVec.toNat_ofNat, e1, e2]
  rw [Go.IntKind.wrap_i64]
  omega
theorem pick_ok (k : Nat) (s : List Int) (p n : Int) (hk : 1 ≤ k) (hs : Ok s) (hp : 0 ≤ p) (hp' : p ≤ 1000000) :
    ∃ r, spec_l6Rd_pick.f k s p n = some (r, p + 1) ∧ 0 ≤ r ∧ (1 ≤ n → r < n) ∧ (n < 1 → r = 0) := by
  obtain ⟨k, rfl⟩ : ∃ m, k = m + 1 := ⟨k - 1, by omega⟩
  unfold spec_l6Rd_pick.f
  have e : wrap64 (p + 1) = p + 1 := w_ _ (by omega) (by omega)
  have e' : wrap64 (p + 1 - 1) = p := by rw [w_ _ (by omega) (by omega)]; omega
  rw [e]
  by_cases hn : n < 1
  · rw [if_pos hn]
    refine ⟨0, ?_, by omega, by omega, by omega⟩
    simp [spec_l6Rd_pick.j0]
  · rw [if_neg hn]
    by_cases hl : (s.length : Int) = 0
    · rw [beq_iff_eq.mpr hl]
      refine ⟨0, ?_, by omega, by omega, by omega⟩
      simp [spec_l6Rd_pick.j0]
    · rw [beq_eq_false_iff_ne.mpr hl]
      have hl' : (s.length : Int) ≤ 2000 := by have := hs.1; omega
      simp only [spec_l6Rd_pick.j0, e']
      rw [if_neg (by simp)]
      by_cases c : p < (s.length : Int)
      · rw [if_pos c, if_pos hp, if_neg (by omega)]
        obtain ⟨r0, r1⟩ := rd_ok hs p
        rw [w_ (rd s p) (by omega) (by omega)]
        exact ⟨_, rfl, Int.tmod_nonneg _ r0, fun _ => Int.tmod_lt_of_pos _ (by omega), by omega⟩
      · have a1 := Int.tmod_nonneg (s.length : Int) hp
        have a2 := Int.tmod_lt_of_pos p (b := (s.length : Int)) (by omega)
        have a3 : wrap64 (wrap64 (p * 7) + 3) = p * 7 + 3 := by rw [w_ (p * 7) (by omega) (by omega), w_ _ (by omega) (by omega)]
        have a4 := Int.tmod_nonneg (s.length : Int) (a := p * 7 + 3) (by omega)
        have a5 := Int.tmod_lt_of_pos (p * 7 + 3) (b := (s.length : Int)) (by omega)
        rw [if_neg c, if_neg hl, if_pos a1, if_pos a2, a3, if_pos a4, if_pos a5, if_neg (by omega)]
        obtain ⟨r0, r1⟩ := rd_ok hs (Int.tmod p (s.length : Int))
        obtain ⟨q0, q1⟩ := rd_ok hs (Int.tmod (p * 7 + 3) (s.length : Int))
        generalize rd s (Int.tmod p (s.length : Int)) = A at *
        generalize rd s (Int.tmod (p * 7 + 3) (s.length : Int)) = B at *
        have d0 : 0 ≤ Int.tdiv p (s.length : Int) := Int.tdiv_nonneg hp (by omega)
        have d1 : Int.tdiv p (s.length : Int) ≤ p := by rw [Int.tdiv_eq_ediv_of_nonneg hp]; exact Int.ediv_le_self _ hp
        generalize Int.tdiv p (s.length : Int) = D at *
        simp (disch := omega) only [w_]
        have x0 : 0 ≤ A * 131 + B * 1117 + p * 29 + D * 53 := by omega
        have x1 : A * 131 + B * 1117 + p * 29 + D * 53 ≤ 100000000 := by omega
        generalize A * 131 + B * 1117 + p * 29 + D * 53 = X at *
        have y0 : 0 ≤ Int.tdiv X 64 := Int.tdiv_nonneg x0 (by omega)
        have y1 : Int.tdiv X 64 ≤ X := by rw [Int.tdiv_eq_ediv_of_nonneg x0]; exact Int.ediv_le_self _ x0
        simp (disch := omega) only [w_]
        exact ⟨_, rfl, Int.tmod_nonneg _ (xor_nonneg _ _ (by omega) (by omega) (by omega) (by omega)), fun _ => Int.tmod_lt_of_pos _ (by omega), by omega⟩
theorem open_ok (l : List Int) (h : ∀ x ∈ l, (Lit.int .u8 x).wf = true) : ∃ s, spec_l6Open.f l = some (s, 0) ∧ Ok s := by
  have b : ∀ x ∈ l, 0 ≤ x ∧ x ≤ 255 := fun x hx => by
    have := h x hx
    simp [Lit.wf, IntKind.min, IntKind.max, IntKind.bits, IntKind.signed] at this
    omega
  unfold spec_l6Open.f
  by_cases c : (l.length : Int) > 2000
  · rw [if_pos c, if_pos (by omega)]
    exact ⟨_, rfl, by rw [List.length_take]; omega, fun x hx => b x (List.mem_of_mem_take hx)⟩
  · rw [if_neg c]
    exact ⟨_, rfl, by omega, b⟩

/-! ### size -/
theorem size_ok (k : Nat) (s : List Int) (p : Int) (hk : 1 ≤ k) (hs : Ok s) (hp : 0 ≤ p) (hp' : p ≤ 10000) : ∃ n z q, spec_l91Size.f k s p = some (n, z, q) ∧ p ≤ q ∧ q ≤ p + 4 := by
  unfold spec_l91Size.f
  obtain ⟨r1, e1, a1, b1, c1⟩ := pick_ok k s p 12 hk hs hp (by omega)
  rw [e1]; simp only [Option.bind_some]
  by_cases h : r1 = 0
  · obtain ⟨r2, e2, a2, b2, c2⟩ := pick_ok k s (p + 1) 4 hk hs (by omega) (by omega)
    obtain ⟨r3, e3, a3, b3, c3⟩ := pick_ok k s (p + 1 + 1) 4 hk hs (by omega) (by omega)
    rw [if_pos h, e2]; simp only [Option.bind_some, List.length_cons, List.length_nil]
    rw [if_pos a2, if_pos (by have := b2 (by omega); omega), e3]; simp only [Option.bind_some]
    rw [if_pos a3, if_pos (by have := b3 (by omega); omega)]
    exact ⟨_, _, _, rfl, by omega, by omega⟩
  · obtain ⟨r2, e2, a2, b2, c2⟩ := pick_ok k s (p + 1) 250 hk hs (by omega) (by omega)
    obtain ⟨r3, e3, a3, b3, c3⟩ := pick_ok k s (p + 1 + 1) 8 hk hs (by omega) (by omega)
    obtain ⟨r4, e4, a4, b4, c4⟩ := pick_ok k s (p + 1 + 1 + 1) 250 hk hs (by omega) (by omega)
    rw [if_neg h, e2]; simp only [Option.bind_some]
    rw [e3]; simp only [Option.bind_some]
    rw [e4]; simp only [Option.bind_some]
    exact ⟨_, _, _, rfl, by omega, by omega⟩

/-! ### dvessels -/
theorem dvessels_ok (k : Nat) (l : List Int) (hk : 2 ≤ k) (hl : ∀ x ∈ l, (Lit.int .u8 x).wf = true) : ∃ n z, spec_DrawVesselsFor.f k l = some (n, z) := by
  obtain ⟨k, rfl⟩ : ∃ r, k = r + 1 := ⟨k - 1, by omega⟩
  unfold spec_DrawVesselsFor.f
  obtain ⟨s, es, hs⟩ := open_ok l hl
  obtain ⟨n, z, p, e1, p1, p2⟩ := size_ok (k + 1) s 0 (by omega) hs (by omega) (by omega)
  obtain ⟨r, e2, _⟩ := pick_ok (k + 1) s p 3 (by omega) hs (by omega) (by omega)
  obtain ⟨r3, e3, _⟩ := pick_ok k s (p + 1) 8 (by omega) hs (by omega) (by omega)
  obtain ⟨r4, e4, _⟩ := pick_ok k s (p + 1 + 1) z (by omega) hs (by omega) (by omega)
  rw [es]; simp only [Option.bind_some]
  rw [e1]; simp only [Option.bind_some]
  rw [e2]; simp only [Option.bind_some, spec_DrawVesselsFor.j0, e3, e4]
  repeat' split
  all_goals exact ⟨_, _, rfl⟩

/-- What the first c vessels hold together. -/
def VS (n m : Int) (c : Nat) : Int := (c : Int) * (n / m) + (if (c : Int) < n % m then (c : Int) else n % m)
theorem vs_succ (n m : Int) (c : Nat) : VS n m (c + 1) = VS n m c + VE n m c := by
  unfold VS VE
  rw [show (((c + 1 : Nat) : Int)) * (n / m) = (c : Int) * (n / m) + n / m by rw [Int.natCast_add, Int.add_mul]; simp]
  repeat' split
  all_goals omega
theorem vs_in (n m : Int) (hn : 0 ≤ n) (hn' : n ≤ 9999) (hm : 1 ≤ m) (c : Nat) (hc : c ≤ 100) : 0 ≤ VS n m c ∧ VS n m c ≤ 1010000 := by
  obtain ⟨-, -, q0, q1⟩ := ve_vals n m hn hn' hm
  have a := Int.mul_nonneg (a := (c : Int)) (by omega) q0
  have b : (c : Int) * (n / m) ≤ 100 * 9999 := Int.mul_le_mul (by omega) q1 q0 (by omega)
  have r := Int.emod_nonneg n (b := m) (by omega)
  unfold VS
  split <;> omega
theorem sumv_loop (n m : Int) (hn : 0 ≤ n) (hn' : n ≤ 9999) (hm : 1 ≤ m) (c : Nat) (hc : c ≤ 100) : ∀ (d k j : Nat), j + d = c → d < k →
    laws_sumOf.l0 k (VL n m c) (VS n m j) (j : Int) = some (VS n m c)
  | 0, k, j, hj, hk => by
    obtain ⟨k, rfl⟩ : ∃ r, k = r + 1 := ⟨k - 1, by omega⟩
    obtain rfl : j = c := by omega
    simp only [laws_sumOf.l0]
    rw [vl_length, if_neg (by omega)]
  | d + 1, k, j, hj, hk => by
    obtain ⟨k, rfl⟩ : ∃ r, k = r + 1 := ⟨k - 1, by omega⟩
    have e : wrap64 ((j : Int) + 1) = ((j + 1 : Nat) : Int) := by rw [w_ _ (by omega) (by omega)]; omega
    obtain ⟨s0, s1⟩ := vs_in n m hn hn' hm (j + 1) (by omega)
    simp only [laws_sumOf.l0]
    rw [vl_length, if_pos (by omega), if_pos (by omega), rd_vl n m c j (by omega), ← vs_succ, e, w_ _ (by omega) (by omega)]
    exact sumv_loop n m hn hn' hm c hc d k (j + 1) (by omega) (by omega)
theorem sumv (n m : Int) (hn : 0 ≤ n) (hn' : n ≤ 9999) (hm : 1 ≤ m) (hm' : m ≤ 20) (k : Nat) (hk : 30 ≤ k) : laws_sumOf.f k (VL n m m.toNat) = some n := by
  have h := sumv_loop n m hn hn' hm m.toNat (by omega) m.toNat k 0 (by omega) (by omega)
  have r0 := Int.emod_nonneg n (b := m) (by omega)
  have r1 := Int.emod_lt_of_pos n (b := m) (by omega)
  have e0 : VS n m 0 = 0 := by unfold VS; split <;> simp <;> omega
  have e1 : VS n m m.toNat = n := by
    unfold VS
    rw [show ((m.toNat : Nat) : Int) = m by omega, if_neg (by omega)]
    exact Int.mul_ediv_add_emod n m
  rw [e0, e1] at h
  exact h
theorem rd_vl0 (n m : Int) (c : Nat) (h : 0 < c) : rd (VL n m c) 0 = VE n m 0 := by
  cases c with
  | zero => omega
  | succ c => simp [rd, VL, List.range_succ_eq_map]
theorem tn (m : Int) (h : 1 ≤ m) : 0 < m.toNat := by omega
theorem tnj (m : Int) (j : Nat) (h : (j : Int) < m) : j < m.toNat ∧ ((m.toNat : Nat) : Int) = m := by omega
theorem ve_down (n m : Int) (i : Nat) : VE n m (i + 1) ≤ VE n m i := by
  unfold VE
  generalize n % m = r
  generalize n / m = q
  split <;> split <;> omega
theorem ve_near (n m : Int) (j : Nat) : n / m ≤ VE n m j ∧ VE n m j ≤ n / m + 1 := by
  unfold VE
  generalize n % m = r
  generalize n / m = q
  split <;> omega
attribute [local irreducible] VE
theorem vessels_loop (n z m : Int) (hn : 0 ≤ n) (hn' : n ≤ 9999) (hz : z ≤ 999) (hm : 1 ≤ m) (hm' : m ≤ 20) (hp : PF n z = m) (lo : 1 ≤ n / m) (up : ∀ j, VE n m j ≤ z) : ∀ (d k j : Nat), (j : Int) + d = m → d + 40 < k →
    laws_FnVessels.l0 k n z (VL n m m.toNat) (j : Int) = some true
  | 0, k, j, hj, hk => by
    obtain ⟨k, rfl⟩ : ∃ r, k = r + 1 := ⟨k - 1, by omega⟩
    simp only [laws_FnVessels.l0]
    rw [vl_length, if_neg (by omega), sumv n m hn hn' hm hm' k (by omega), i_pf, hp]
    simp only [Option.bind_some, if_true]
    simp; omega
  | d + 1, k, j, hj, hk => by
    obtain ⟨k, rfl⟩ : ∃ r, k = r + 1 := ⟨k - 1, by omega⟩
    obtain ⟨-, -, q0, q1⟩ := ve_vals n m hn hn' hm
    have e : wrap64 ((j : Int) + 1) = ((j + 1 : Nat) : Int) := by rw [w_ _ (by omega) (by omega)]; omega
    have u := up j
    have l0 := ve_near n m j
    have l1 := ve_near n m 0
    have r := vessels_loop n z m hn hn' hz hm hm' hp lo up d k (j + 1) (by omega) (by omega)
    have hjm := tnj m j (show (j : Int) < m by omega)
    simp only [laws_FnVessels.l0]
    rw [vl_length, hjm.2, if_pos (by omega), if_pos (by omega), rd_vl n m _ j hjm.1, if_neg (by omega), if_neg (by omega), e, rd_vl0 n m m.toNat (tn m hm), w_ (VE n m j + 1) (by omega) (by omega)]
    by_cases c : j = 0
    · rw [if_neg (by omega)]
      exact r
    · obtain ⟨i, rfl⟩ : ∃ i, j = i + 1 := ⟨j - 1, by omega⟩
      have e' : wrap64 (((i + 1 : Nat) : Int) - 1) = (i : Int) := by rw [w_ _ (by omega) (by omega)]; omega
      have l2 := ve_down n m i
      rw [if_pos (by omega), e', if_pos (by omega), if_pos (by omega), rd_vl n m _ i (Nat.lt_of_succ_lt hjm.1), if_neg (by omega), if_pos (by omega), if_neg (by omega)]
      exact r
theorem FnVessels : laws_FnVessels.Pure := by
  intro l _ _ hl
  refine ⟨200, ?_⟩
  unfold laws_FnVessels.f
  by_cases c : (l.length : Int) > 1048576
  · rw [if_pos c]
  · obtain ⟨n, z, e⟩ := dvessels_ok 200 l (by omega) hl
    have vl := vf_length n z
    rw [if_neg c, e]; simp only [Option.bind_some]
    rw [i_vf 200 _ _ (by omega), k_vf 200 _ _ (by omega)]; simp only [Option.bind_some]
    rw [same_ints _ (by omega) 200 (by omega)]; simp only [Option.bind_some, if_true]
    show laws_FnVessels.j0 (199 + 1) _ _ _ _ _ = _
    simp only [laws_FnVessels.j0]
    by_cases h : 1 ≤ PF n z ∧ PF n z ≤ 20
    · rcases pf_cases n z with ⟨g, _⟩ | ⟨g, v, _⟩
      · omega
      · obtain ⟨⟨n0, n1⟩, z0, z1⟩ := v
        have lo := div_low (n + z - 1) z (by omega)
        have hi := div_high (n + z - 1) z (by omega)
        rw [show VF n z = VL n (PF n z) (PF n z).toNat from if_pos h, vl_length, if_neg (by simp; omega)]
        rw [← g] at lo hi
        obtain ⟨m, hm⟩ : ∃ m, m = PF n z := ⟨_, rfl⟩
        rw [← hm] at lo hi h ⊢
        have s0 := div_low n m (by omega)
        have s1 := div_high n m (by omega)
        have s2 := Int.mul_ediv_add_emod n m
        rw [Int.mul_comm] at s2
        have t0 := Int.emod_nonneg n (b := m) (by omega)
        have t1 := Int.emod_lt_of_pos n (b := m) (by omega)
        have hmn : m ≤ n := by
          have a : (m - 1) * 1 ≤ (m - 1) * z := Int.mul_le_mul_of_nonneg_left z0 (by omega)
          rw [Int.sub_mul, Int.sub_mul] at a
          omega
        have one : 1 ≤ n / m := Int.le_ediv_of_mul_le (by omega) (by omega)
        have up0 : n / m ≤ z := by
          have : n / m < z + 1 := Int.ediv_lt_of_lt_mul (by omega) (by rw [Int.add_mul, Int.mul_comm z m]; omega)
          omega
        have up : ∀ j, VE n m j ≤ z := by
          intro j
          unfold VE
          split
          · rename_i c1
            by_cases c2 : n / m = z
            · rw [c2, Int.mul_comm z m] at s2
              omega
            · omega
          · exact up0
        exact vessels_loop n z m n0 n1 z1 h.1 h.2 hm.symm one up m.toNat 199 0 (by omega) (by omega)
    · rw [show VF n z = [] from if_neg h, if_pos (by simp), same_ints [] (by simp) 199 (by simp)]
      rfl

end Go.Proofs.Ytpcclmgcnomgeaa.Pure

namespace Go.Proofs.Ytpcclmgcnomgeaa.PrintWords
/-- The printed row looks for the word under this name. -/
abbrev sized_ints := @Go.Proofs.YtpcclmgcnomgeaaW.PrintWords.sized_ints
end Go.Proofs.Ytpcclmgcnomgeaa.PrintWords
