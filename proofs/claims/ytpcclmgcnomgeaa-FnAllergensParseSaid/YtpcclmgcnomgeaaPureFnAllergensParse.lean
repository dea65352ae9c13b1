/- FnAllergensParse answers true at every list of bytes. -/
import Derived.Test.YtpcclmgcnomgeaaQFnAllergensParse
import Derived.Laws.BitsLemmas
import Derived.Test.YtpcclmgcnomgeaaWSized
namespace Go.Proofs.Ytpcclmgcnomgeaa.Pure
open Go.RowKit Go.Proofs.Ytpcclmgcnomgeaa.PFnAllergensParse Go.Proofs.YtpcclmgcnomgeaaW.PrintWords Go.Proofs.YtpcclmgcnomgeaaW.PrintLast
set_option linter.unusedSimpArgs false
set_option linter.unusedVariables false

/-! ### core -/
theorem k_in (a b c : Int) : spec_l6In.f a b c = some (decide (b ≤ a ∧ a ≤ c)) := by
  unfold spec_l6In.f
  by_cases h : b ≤ a <;> simp [h]
theorem i_in (a b c : Int) : impl_within.f a b c = some (decide (b ≤ a ∧ a ≤ c)) := by
  unfold impl_within.f
  by_cases h : b ≤ a <;> simp [h]
theorem w_ (n : Int) (h : -9223372036854775808 ≤ n) (h' : n ≤ 9223372036854775807) : wrap64 n = n := by unfold wrap64; omega
theorem div_low (a b : Int) (hb : 0 < b) : (a / b) * b ≤ a := Int.ediv_mul_le a (by omega)
theorem div_high (a b : Int) (hb : 0 < b) : a < (a / b) * b + b := by
  have h := Int.lt_ediv_add_one_mul_self a hb
  rw [Int.add_mul] at h
  omega
theorem div_is (a b q : Int) (hb : 0 < b) (h1 : q * b ≤ a) (h2 : a < q * b + b) : a / b = q := by
  have h3 := Int.le_ediv_of_mul_le hb h1
  have h4 : a / b < q + 1 := Int.ediv_lt_of_lt_mul hb (by rw [Int.add_mul]; omega)
  omega

/-! ### kset -/
theorem k_set (a : Int) : spec_l3Set.f a = some (decide (0 ≤ a ∧ a ≤ 255)) := by
  unfold spec_l3Set.f
  rw [k_in]; rfl

/-! ### iset -/
theorem i_set (a : Int) : impl_isSet.f a = some (decide (0 ≤ a ∧ a ≤ 255)) := by
  unfold impl_isSet.f
  rw [i_in]; rfl

/-! ### alltext -/
/-- The letters of a set. -/
def LT (x : Nat) : List Nat := (List.range 8).filter x.testBit
/-- The text of a set. -/
def TL (x : Nat) : List UInt8 := if x = 0 then [110, 111, 110, 101] else (LT x).map fun j => UInt8.ofNat (97 + j)
/-- The set of a text of a set. -/
def DL (l : List UInt8) : Nat := if l = [110, 111, 110, 101] then 0 else l.foldl (fun n c => n + 2 ^ (c.toNat - 97)) 0
def isT (a : Option ByteArray) (l : List UInt8) : Bool := match a with | some x => x.data.toList == l | _ => false
theorem isT_of (a : Option ByteArray) (l : List UInt8) (h : isT a l = true) : a = some ⟨l.toArray⟩ := by
  cases a with
  | none => simp [isT] at h
  | some x =>
    simp only [isT, beq_iff_eq] at h
    subst h
    rfl
set_option maxRecDepth 100000 in
theorem all_k : ∀ x : Fin 256, isT (spec_AllergensText.f 60 (x.val : Int)) (TL x.val) = true := by decide +kernel
set_option maxRecDepth 100000 in
theorem all_i : ∀ x : Fin 256, isT (impl_AllergensText.f 60 (x.val : Int)) (TL x.val) = true := by decide +kernel
set_option maxRecDepth 100000 in
theorem all_d : ∀ x : Fin 256, DL (TL x.val) = x.val := by decide +kernel
theorem tl_inj (x y : Nat) (hx : x ≤ 255) (hy : y ≤ 255) (h : TL x = TL y) : x = y := by
  have e1 : DL (TL x) = x := all_d ⟨x, by omega⟩
  have e2 : DL (TL y) = y := all_d ⟨y, by omega⟩
  rw [← e1, ← e2, h]
/-- The text of a set, as a string. -/
def TX (x : Nat) : ByteArray := ⟨(TL x).toArray⟩
theorem text_k (k x : Nat) (hk : 60 ≤ k) (hx : x ≤ 255) : spec_AllergensText.f k (x : Int) = some (TX x) :=
  at_rounds (spec_AllergensText.mono _) hk (isT_of _ _ (all_k ⟨x, by omega⟩))
theorem text_i (k x : Nat) (hk : 60 ≤ k) (hx : x ≤ 255) : impl_AllergensText.f k (x : Int) = some (TX x) :=
  at_rounds (impl_AllergensText.mono _) hk (isT_of _ _ (all_i ⟨x, by omega⟩))
theorem text_at (k x : Nat) (hk : 60 ≤ k) (hx : x ≤ 255) : ∃ t, spec_AllergensText.f k (x : Int) = some t ∧ impl_AllergensText.f k (x : Int) = some t :=
  ⟨TX x, text_k k x hk hx, text_i k x hk hx⟩
theorem k_notext (k : Nat) (a : Int) (h : ¬ (0 ≤ a ∧ a ≤ 255)) : spec_AllergensText.f k a = some ⟨#[]⟩ := by
  unfold spec_AllergensText.f
  rw [k_set]; simp [h]
theorem i_notext (k : Nat) (a : Int) (h : ¬ (0 ≤ a ∧ a ≤ 255)) : impl_AllergensText.f k a = some ⟨#[]⟩ := by
  unfold impl_AllergensText.f
  rw [i_set]; simp [h]

/-! ### txfacts -/
set_option maxRecDepth 100000 in
theorem all_d2 : ∀ x : Fin 256, DL (TX x.val).toList = x.val := by decide +kernel
theorem tx_inj (x y : Nat) (hx : x ≤ 255) (hy : y ≤ 255) (h : (TX x).toList = (TX y).toList) : x = y := by
  have e1 : DL (TX x).toList = x := all_d2 ⟨x, by omega⟩
  have e2 : DL (TX y).toList = y := all_d2 ⟨y, by omega⟩
  rw [← e1, ← e2, h]
set_option maxRecDepth 100000 in
theorem all_ne : ∀ x : Fin 256, ¬ (TX x.val).toList = [] := by decide +kernel
theorem tx_ne (x : Nat) (hx : x ≤ 255) : ¬ (TX x).toList = [] := all_ne ⟨x, by omega⟩
theorem no_list : (⟨#[]⟩ : ByteArray).toList = [] := by decide +kernel
set_option maxRecDepth 100000 in
theorem all_size : ∀ x : Fin 256, (TX x.val).size ≤ 8 := by decide +kernel
theorem tx_size (x : Nat) (hx : x ≤ 255) : (TX x).size ≤ 8 := all_size ⟨x, by omega⟩

/-! ### parse -/
theorem parse_i (s : ByteArray) : ∀ (d k x : Nat), x + d = 256 → d + 61 < k →
    (∃ z, x ≤ z ∧ z ≤ 255 ∧ (TX z).toList = s.toList ∧ impl_AllergensParse.l0 k s (x : Int) = some ((z : Int), true)) ∨
    ((∀ z, x ≤ z → z ≤ 255 → ¬ (TX z).toList = s.toList) ∧ impl_AllergensParse.l0 k s (x : Int) = some (0, false))
  | 0, k, x, hx, hk => by
    obtain ⟨k, rfl⟩ : ∃ r, k = r + 1 := ⟨k - 1, by omega⟩
    refine .inr ⟨fun z h0 h1 => by omega, ?_⟩
    simp only [impl_AllergensParse.l0]
    rw [if_neg (by omega)]
  | d + 1, k, x, hx, hk => by
    obtain ⟨k, rfl⟩ : ∃ r, k = r + 1 := ⟨k - 1, by omega⟩
    have e : wrap64 ((x : Int) + 1) = ((x + 1 : Nat) : Int) := by rw [w_ _ (by omega) (by omega)]; omega
    simp only [impl_AllergensParse.l0]
    rw [if_pos (by omega), text_i k x (by omega) (by omega), e]
    simp only [Option.bind_some]
    by_cases c : (TX x).toList = s.toList
    · rw [if_pos c]
      exact .inl ⟨x, Nat.le_refl _, by omega, c, rfl⟩
    · rw [if_neg c]
      rcases parse_i s d k (x + 1) (by omega) (by omega) with ⟨z, h0, h1, h2, h3⟩ | ⟨h0, h1⟩
      · exact .inl ⟨z, by omega, h1, h2, h3⟩
      · refine .inr ⟨fun z g0 g1 => ?_, h1⟩
        by_cases g : z = x
        · rw [g]; exact c
        · exact h0 z (by omega) g1

/-! ### parsek -/
theorem parse_k (s : ByteArray) : ∀ (d k x : Nat), x + d = 256 → d + 61 < k →
    (∃ z, x ≤ z ∧ z ≤ 255 ∧ (TX z).toList = s.toList ∧ spec_AllergensParse.l0 k s (x : Int) = some ((z : Int), true)) ∨
    ((∀ z, x ≤ z → z ≤ 255 → ¬ (TX z).toList = s.toList) ∧ spec_AllergensParse.l0 k s (x : Int) = some (0, false))
  | 0, k, x, hx, hk => by
    obtain ⟨k, rfl⟩ : ∃ r, k = r + 1 := ⟨k - 1, by omega⟩
    refine .inr ⟨fun z h0 h1 => by omega, ?_⟩
    simp only [spec_AllergensParse.l0]
    rw [if_neg (by omega)]
  | d + 1, k, x, hx, hk => by
    obtain ⟨k, rfl⟩ : ∃ r, k = r + 1 := ⟨k - 1, by omega⟩
    have e : wrap64 ((x : Int) + 1) = ((x + 1 : Nat) : Int) := by rw [w_ _ (by omega) (by omega)]; omega
    simp only [spec_AllergensParse.l0]
    rw [if_pos (by omega), text_k k x (by omega) (by omega), e]
    simp only [Option.bind_some]
    by_cases c : (TX x).toList = s.toList
    · rw [if_pos c]
      exact .inl ⟨x, Nat.le_refl _, by omega, c, rfl⟩
    · rw [if_neg c]
      rcases parse_k s d k (x + 1) (by omega) (by omega) with ⟨z, h0, h1, h2, h3⟩ | ⟨h0, h1⟩
      · exact .inl ⟨z, by omega, h1, h2, h3⟩
      · refine .inr ⟨fun z g0 g1 => ?_, h1⟩
        by_cases g : z = x
        · rw [g]; exact c
        · exact h0 z (by omega) g1

/-! ### icount -/
/-- How many of the eight allergens a set has. -/
def CN (x : Nat) : Nat := ((List.range 8).filter x.testBit).length
set_option maxRecDepth 100000 in
theorem all_ic : ∀ x : Fin 256, (impl_AllergensCount.f (x.val : Int) == some (CN x.val : Int)) = true := by decide +kernel
theorem i_count (x : Nat) (hx : x ≤ 255) : impl_AllergensCount.f (x : Int) = some (CN x : Int) := by
  have h := all_ic ⟨x, by omega⟩
  simpa using h
theorem i_nocount (a : Int) (h : ¬ (0 ≤ a ∧ a ≤ 255)) : impl_AllergensCount.f a = some (-1) := by
  unfold impl_AllergensCount.f
  rw [i_set]; simp [h]

/-! ### pick -/
/-- What a reader of draws holds: at most 2000 bytes. -/
def Ok (s : List Int) : Prop := s.length ≤ 2000 ∧ ∀ x ∈ s, 0 ≤ x ∧ x ≤ 255
theorem rd_ok {s : List Int} (h : Ok s) (i : Int) : 0 ≤ rd s i ∧ rd s i ≤ 255 := by
  unfold rd
  rw [List.getD_eq_getElem?_getD]
  cases e : s[i.toNat]? with
  | none => simp
  | some x => simpa using h.2 x (List.mem_of_getElem? e)
theorem xor_nonneg (x y : Int) (hx : 0 ≤ x) (hx' : x < 9223372036854775808) (hy : 0 ≤ y) (hy' : y < 9223372036854775808) : 0 ≤ Go.bits .xor .i64 x y := by
  obtain ⟨a, rfl⟩ := Int.eq_ofNat_of_zero_le hx
  obtain ⟨b, rfl⟩ := Int.eq_ofNat_of_zero_le hy
  have ha : a < 2 ^ 63 := by omega
  have hb : b < 2 ^ 63 := by omega
  have hc := Nat.xor_lt_two_pow ha hb
  have e1 : a % 2 ^ IntKind.i64.bits = a := Nat.mod_eq_of_lt (Nat.lt_of_lt_of_le ha (Nat.pow_le_pow_right (by decide) (by decide)))
  have e2 : b % 2 ^ IntKind.i64.bits = b := Nat.mod_eq_of_lt (Nat.lt_of_lt_of_le hb (Nat.pow_le_pow_right (by decide) (by decide)))
  simp only [Go.bits, BitVec.ofInt_natCast, BitVec.toNat_xor, BitVec.toNat_ofNat, e1, e2]
  rw [Go.IntKind.wrap_i64]
  omega
theorem pick_ok (k : Nat) (s : List Int) (p n : Int) (hk : 1 ≤ k) (hs : Ok s) (hp : 0 ≤ p) (hp' : p ≤ 1000000) :
    ∃ r, spec_l6Rd_pick.f k s p n = some (r, p + 1) ∧ 0 ≤ r ∧ (1 ≤ n → r < n) ∧ (n < 1 → r = 0) := by
  obtain ⟨k, rfl⟩ : ∃ m, k = m + 1 := ⟨k - 1, by omega⟩
  unfold spec_l6Rd_pick.f
  have e : wrap64 (p + 1) = p + 1 := w_ _ (by omega) (by omega)
  have e' : wrap64 (p + 1 - 1) = p := by rw [w_ _ (by omega) (by omega)]; omega
  rw [e]
  by_cases hn : n < 1
  · rw [if_pos hn]
    refine ⟨0, ?_, by omega, by omega, by omega⟩
    simp [spec_l6Rd_pick.j0]
  · rw [if_neg hn]
    by_cases hl : (s.length : Int) = 0
    · rw [beq_iff_eq.mpr hl]
      refine ⟨0, ?_, by omega, by omega, by omega⟩
      simp [spec_l6Rd_pick.j0]
    · rw [beq_eq_false_iff_ne.mpr hl]
      have hl' : (s.length : Int) ≤ 2000 := by have := hs.1; omega
      simp only [spec_l6Rd_pick.j0, e']
      rw [if_neg (by simp)]
      by_cases c : p < (s.length : Int)
      · rw [if_pos c, if_pos hp, if_neg (by omega)]
        obtain ⟨r0, r1⟩ := rd_ok hs p
        rw [w_ (rd s p) (by omega) (by omega)]
        exact ⟨_, rfl, Int.tmod_nonneg _ r0, fun _ => Int.tmod_lt_of_pos _ (by omega), by omega⟩
      · have a1 := Int.tmod_nonneg (s.length : Int) hp
        have a2 := Int.tmod_lt_of_pos p (b := (s.length : Int)) (by omega)
        have a3 : wrap64 (wrap64 (p * 7) + 3) = p * 7 + 3 := by rw [w_ (p * 7) (by omega) (by omega), w_ _ (by omega) (by omega)]
        have a4 := Int.tmod_nonneg (s.length : Int) (a := p * 7 + 3) (by omega)
        have a5 := Int.tmod_lt_of_pos (p * 7 + 3) (b := (s.length : Int)) (by omega)
        rw [if_neg c, if_neg hl, if_pos a1, if_pos a2, a3, if_pos a4, if_pos a5, if_neg (by omega)]
        obtain ⟨r0, r1⟩ := rd_ok hs (Int.tmod p (s.length : Int))
        obtain ⟨q0, q1⟩ := rd_ok hs (Int.tmod (p * 7 + 3) (s.length : Int))
        generalize rd s (Int.tmod p (s.length : Int)) = A at *
        generalize rd s (Int.tmod (p * 7 + 3) (s.length : Int)) = B at *
        have d0 : 0 ≤ Int.tdiv p (s.length : Int) := Int.tdiv_nonneg hp (by omega)
        have d1 : Int.tdiv p (s.length : Int) ≤ p := by rw [Int.tdiv_eq_ediv_of_nonneg hp]; exact Int.ediv_le_self _ hp
        generalize Int.tdiv p (s.length : Int) = D at *
        simp (disch := omega) only [w_]
        have x0 : 0 ≤ A * 131 + B * 1117 + p * 29 + D * 53 := by omega
        have x1 : A * 131 + B * 1117 + p * 29 + D * 53 ≤ 100000000 := by omega
        generalize A * 131 + B * 1117 + p * 29 + D * 53 = X at *
        have y0 : 0 ≤ Int.tdiv X 64 := Int.tdiv_nonneg x0 (by omega)
        have y1 : Int.tdiv X 64 ≤ X := by rw [Int.tdiv_eq_ediv_of_nonneg x0]; exact Int.ediv_le_self _ x0
        simp (disch := omega) only [w_]
        exact ⟨_, rfl, Int.tmod_nonneg _ (xor_nonneg _ _ (by omega) (by omega) (by omega) (by omega)), fun _ => Int.tmod_lt_of_pos _ (by omega), by omega⟩
theorem open_ok (l : List Int) (h : ∀ x ∈ l, (Lit.int .u8 x).wf = true) : ∃ s, spec_l6Open.f l = some (s, 0) ∧ Ok s := by
  have b : ∀ x ∈ l, 0 ≤ x ∧ x ≤ 255 := fun x hx => by
    have := h x hx
    simp [Lit.wf, IntKind.min, IntKind.max, IntKind.bits, IntKind.signed] at this
    omega
  unfold spec_l6Open.f
  by_cases c : (l.length : Int) > 2000
  · rw [if_pos c, if_pos (by omega)]
    exact ⟨_, rfl, by rw [List.length_take]; omega, fun x hx => b x (List.mem_of_mem_take hx)⟩
  · rw [if_neg c]
    exact ⟨_, rfl, by omega, b⟩

/-! ### has -/
theorem weights : ∀ i : Fin 8, spec_l3Weight.f 20 (i.val : Int) = some ((2 ^ i.val : Nat) : Int) := by decide +kernel
theorem weight_ (k j : Nat) (hk : 20 ≤ k) (hj : j ≤ 7) : spec_l3Weight.f k (j : Int) = some ((2 ^ j : Nat) : Int) :=
  at_rounds (spec_l3Weight.mono _) hk (weights ⟨j, by omega⟩)
theorem pow_in (j : Nat) (hj : j ≤ 7) : 1 ≤ 2 ^ j ∧ 2 ^ j ≤ 128 :=
  ⟨Nat.one_le_two_pow, Nat.pow_le_pow_right (n := 2) (by decide) hj⟩
theorem has_ (k x j : Nat) (hk : 20 ≤ k) (hx : x ≤ 255) (hj : j ≤ 7) : spec_l3Has.f k (x : Int) (j : Int) = some (x.testBit j) := by
  obtain ⟨p0, p1⟩ := pow_in j hj
  unfold spec_l3Has.f
  rw [weight_ k j hk hj]; simp only [Option.bind_some]
  have hq := Nat.div_le_self x (2 ^ j)
  have e0 : Int.tdiv (x : Int) ((2 ^ j : Nat) : Int) = ((x / 2 ^ j : Nat) : Int) := by
    rw [Int.tdiv_eq_ediv_of_nonneg (by omega), ← Int.natCast_ediv]
  rw [if_neg (by omega), e0, Nat.testBit_eq_decide_div_mod_eq]
  generalize x / 2 ^ j = q at *
  rw [w_ _ (by omega) (by omega), Int.tmod_eq_emod_of_nonneg (by omega)]
  by_cases h : q % 2 = 1
  · have h' : (q : Int) % 2 = 1 := by omega
    rw [h']; simp [h]
  · have h' : (q : Int) % 2 = 0 := by omega
    rw [h']; simp [h]

/-! ### dset -/
theorem set_loop (s : List Int) (hs : Ok s) : ∀ (d k j : Nat) (o p : Int), j + d = 8 → d + 20 < k → 0 ≤ p → p + d ≤ 100000 → ∃ n q, spec_l91Set.l0 k o (j : Int) s p = some (n, q) ∧ p ≤ q ∧ q ≤ p + d
  | 0, k, j, o, p, hj, hk, h0, h1 => by
    obtain ⟨k, rfl⟩ : ∃ r, k = r + 1 := ⟨k - 1, by omega⟩
    refine ⟨o, p, ?_, by omega, by omega⟩
    simp only [spec_l91Set.l0]
    rw [if_neg (by omega)]
  | d + 1, k, j, o, p, hj, hk, h0, h1 => by
    obtain ⟨k, rfl⟩ : ∃ r, k = r + 1 := ⟨k - 1, by omega⟩
    have e : wrap64 ((j : Int) + 1) = ((j + 1 : Nat) : Int) := by rw [w_ _ (by omega) (by omega)]; omega
    obtain ⟨r, er, _⟩ := pick_ok k s p 4 (by omega) hs h0 (by omega)
    simp only [spec_l91Set.l0]
    rw [if_pos (by omega), er, e]
    simp only [Option.bind_some]
    by_cases c : r = 0
    · rw [if_pos c, weight_ k j (by omega) (by omega)]
      simp only [Option.bind_some]
      obtain ⟨n, q, g, g0, g1⟩ := set_loop s hs d k (j + 1) (wrap64 (o + ((2 ^ j : Nat) : Int))) (p + 1) (by omega) (by omega) (by omega) (by omega)
      exact ⟨n, q, g, by omega, by omega⟩
    · rw [if_neg c]
      obtain ⟨n, q, g, g0, g1⟩ := set_loop s hs d k (j + 1) o (p + 1) (by omega) (by omega) (by omega) (by omega)
      exact ⟨n, q, g, by omega, by omega⟩
theorem set_ok (k : Nat) (s : List Int) (p : Int) (hk : 40 ≤ k) (hs : Ok s) (hp : 0 ≤ p) (hp' : p ≤ 10000) : ∃ n q, spec_l91Set.f k s p = some (n, q) ∧ p ≤ q ∧ q ≤ p + 9 := by
  unfold spec_l91Set.f
  obtain ⟨r1, e1, a1, b1, c1⟩ := pick_ok k s p 24 (by omega) hs hp (by omega)
  rw [e1]; simp only [Option.bind_some]
  by_cases h : r1 = 0
  · obtain ⟨r2, e2, a2, b2, c2⟩ := pick_ok k s (p + 1) 3 (by omega) hs (by omega) (by omega)
    rw [if_pos h, e2]; simp only [Option.bind_some, List.length_cons, List.length_nil]
    rw [if_pos a2, if_pos (by have := b2 (by omega); omega)]
    exact ⟨_, _, rfl, by omega, by omega⟩
  · rw [if_neg h]
    obtain ⟨n, q, g, g0, g1⟩ := set_loop s hs 8 k 0 0 (p + 1) (by omega) (by omega) (by omega) (by omega)
    exact ⟨n, q, g, by omega, by omega⟩

/-! ### twist -/
theorem of_ok (k : Nat) (s : List Int) (p : Int) (t : List ByteArray) (ht : 1 ≤ t.length) (hz : ∀ u ∈ t, u.size ≤ 100) (ht' : t.length ≤ 1000) (hk : 1 ≤ k) (hs : Ok s) (hp : 0 ≤ p) (hp' : p ≤ 10000) : ∃ u, spec_l6Rd_of.f k s p t = some (u, p + 1) ∧ u.size ≤ 100 := by
  unfold spec_l6Rd_of.f
  obtain ⟨r, e, a, b, c⟩ := pick_ok k s p (t.length : Int) hk hs hp (by omega)
  have hr := b (by omega)
  rw [e]; simp only [Option.bind_some]
  rw [if_pos a, if_pos hr]
  refine ⟨_, rfl, ?_⟩
  unfold rdOf
  rw [List.getD_eq_getElem?_getD]
  cases g : t[r.toNat]? with
  | none => simp
  | some u => simpa using hz u (List.mem_of_getElem? g)
theorem twist_ok (k : Nat) (s : List Int) (p : Int) (x : ByteArray) (t : List ByteArray) (hx : x.size ≤ 1000) (ht : 1 ≤ t.length) (hz : ∀ u ∈ t, u.size ≤ 100) (ht' : t.length ≤ 1000) (hk : 2 ≤ k) (hs : Ok s) (hp : 0 ≤ p) (hp' : p ≤ 9000) :
    ∃ u q, spec_l91Twist.f k s p x t = some (u, q) ∧ u.size ≤ 2100 := by
  obtain ⟨k, rfl⟩ : ∃ r, k = r + 1 := ⟨k - 1, by omega⟩
  unfold spec_l91Twist.f
  by_cases h : (x.size : Int) > 0
  · obtain ⟨r1, e1, a1, b1, c1⟩ := pick_ok (k + 1) s p 3 (by omega) hs hp (by omega)
    rw [if_pos h, e1]; simp only [Option.bind_some, spec_l91Twist.j0]
    by_cases g : (r1 == 0) = true
    · rw [if_pos g]
      obtain ⟨r2, e2, a2, b2, c2⟩ := pick_ok k s (p + 1) (x.size : Int) (by omega) hs (by omega) (by omega)
      have hr2 := b2 (by omega)
      obtain ⟨u, e3, z3⟩ := of_ok k s (p + 1 + 1) t ht hz ht' (by omega) hs (by omega) (by omega)
      obtain ⟨r4, e4, a4, b4, c4⟩ := pick_ok k s (p + 1 + 1 + 1) 2 (by omega) hs (by omega) (by omega)
      have hr4 := b4 (by omega)
      have w : wrap64 (r2 + r4) = r2 + r4 := w_ _ (by omega) (by omega)
      have z1 : (x.extract 0 r2.toNat).size ≤ 1000 := by rw [ByteArray.size_extract]; omega
      have z2 : (x.extract (r2 + r4).toNat x.size).size ≤ 1000 := by rw [ByteArray.size_extract]; omega
      rw [e2]; simp only [Option.bind_some]
      rw [if_pos a2, if_pos (by omega), e3]; simp only [Option.bind_some]
      rw [if_pos (by omega), e4]; simp only [Option.bind_some, w]
      rw [if_pos (by omega), if_pos (by omega), if_pos (by rw [ByteArray.size_append]; omega)]
      exact ⟨_, _, rfl, by rw [ByteArray.size_append, ByteArray.size_append]; omega⟩
    · rw [if_neg g]
      exact ⟨_, _, rfl, by omega⟩
  · rw [if_neg h]
    simp only [spec_l91Twist.j0]
    rw [if_neg (by simp)]
    exact ⟨_, _, rfl, by omega⟩

/-! ### lists -/
theorem loop_len (b : ByteArray) : ∀ (n i : Nat) (r : List UInt8), b.size - i = n → (ByteArray.toList.loop b i r).length = n + r.length
  | 0, i, r, h => by
    rw [ByteArray.toList.loop, if_neg (by omega)]
    simp
  | n + 1, i, r, h => by
    rw [ByteArray.toList.loop, if_pos (by omega), loop_len b n (i + 1) _ (by omega)]
    simp
    omega
theorem list_len (b : ByteArray) : b.toList.length = b.size := by
  unfold ByteArray.toList
  have := loop_len b b.size 0 [] (by omega)
  simpa using this

set_option maxRecDepth 100000 in
theorem all_n : ∀ x : Fin 256, (0 < CN x.val → (TX x.val).toList.length = CN x.val) ∧ (CN x.val = 0 → (TX x.val).toList = [110, 111, 110, 101]) := by decide +kernel
theorem text_any (k : Nat) (a : Int) (hk : 60 ≤ k) : ∃ t, spec_AllergensText.f k a = some t ∧ t.size ≤ 8 := by
  by_cases h : 0 ≤ a ∧ a ≤ 255
  · obtain ⟨x, rfl⟩ := Int.eq_ofNat_of_zero_le h.1
    exact ⟨_, text_k k x hk (by omega), tx_size x (by omega)⟩
  · exact ⟨_, k_notext k a h, by decide⟩
theorem dparse_ok (k : Nat) (l : List Int) (hk : 60 ≤ k) (hl : ∀ x ∈ l, (Lit.int .u8 x).wf = true) : ∃ t, spec_DrawAllergensParse.f k l = some t := by
  unfold spec_DrawAllergensParse.f
  obtain ⟨s, es, hs⟩ := open_ok l hl
  obtain ⟨a, p, e1, p1, p2⟩ := set_ok k s 0 (by omega) hs (by omega) (by omega)
  obtain ⟨t, e2, z2⟩ := text_any k a hk
  obtain ⟨u, q, e3, z3⟩ := twist_ok k s p t [(⟨#[]⟩ : ByteArray), (⟨#[97]⟩ : ByteArray), (⟨#[104]⟩ : ByteArray), (⟨#[105]⟩ : ByteArray), (⟨#[110, 111, 110, 101]⟩ : ByteArray)] (by omega) (by simp) (by intro u hu; simp at hu; rcases hu with rfl | rfl | rfl | rfl | rfl <;> decide) (by simp) (by omega) hs (by omega) (by omega)
  rw [es]; simp only [Option.bind_some]
  rw [e1]; simp only [Option.bind_some]
  rw [e2]; simp only [Option.bind_some]
  rw [e3]
  exact ⟨_, rfl⟩
theorem FnAllergensParse (l : List Int) (_ : l.length ≤ maxLen) (hl : ∀ x ∈ l, (Lit.int .u8 x).wf = true) : ∃ k, laws_FnAllergensParse.f k l = some true := by
  refine ⟨400, ?_⟩
  unfold laws_FnAllergensParse.f
  by_cases c : (l.length : Int) > 1048576
  · rw [if_pos c]
  · obtain ⟨t, e⟩ := dparse_ok 400 l (by omega) hl
    rw [if_neg c, e]; simp only [Option.bind_some]
    unfold impl_AllergensParse.f spec_AllergensParse.f
    rw [show (0 : Int) = ((0 : Nat) : Int) from rfl]
    rcases parse_i t 256 400 0 (by omega) (by omega) with ⟨z, h0, h1, h2, h3⟩ | ⟨h0, h1⟩
    · rcases parse_k t 256 400 0 (by omega) (by omega) with ⟨z', g0, g1, g2, g3⟩ | ⟨g0, g1⟩
      · have := tx_inj z z' h1 g1 (h2.trans g2.symm)
        subst this
        rw [h3, g3]; simp only [Option.bind_some, bne_self_eq_false, Bool.false_eq_true, if_false, if_true]
        show laws_FnAllergensParse.j0 (399 + 1) _ _ _ _ _ _ = _
        simp only [laws_FnAllergensParse.j0]
        rw [if_neg (by simp), i_count z h1]; simp only [Option.bind_some]
        rw [text_i 399 z (by omega) h1]; simp only [Option.bind_some]
        rw [if_pos h2]
        obtain ⟨n0, n1⟩ := all_n ⟨z, by omega⟩
        have n2 := list_len t
        rw [← h2] at n2
        by_cases p : 0 < CN z
        · have n3 := n0 p
          rw [if_pos (by omega), if_pos (by show _ = _; simp only at n3; omega)]
        · have n3 := n1 (by show CN z = 0; omega)
          rw [if_neg (by omega), if_pos (by omega), ← h2]
          simp only at n3
          rw [n3]; simp
      · exact absurd h2 (g0 z (by omega) h1)
    · rcases parse_k t 256 400 0 (by omega) (by omega) with ⟨z', g0, g1, g2, g3⟩ | ⟨g0, g1⟩
      · exact absurd g2 (h0 z' (by omega) g1)
      · rw [h1, g1]; simp only [Option.bind_some, bne_self_eq_false, Bool.false_eq_true, if_false, if_true]
        show laws_FnAllergensParse.j0 (399 + 1) _ _ _ _ _ _ = _
        simp [laws_FnAllergensParse.j0]

end Go.Proofs.Ytpcclmgcnomgeaa.Pure

namespace Go.Proofs.Ytpcclmgcnomgeaa.PrintWords
/-- The printed row looks for the word under this name. -/
abbrev sized_ints := @Go.Proofs.YtpcclmgcnomgeaaW.PrintWords.sized_ints
end Go.Proofs.Ytpcclmgcnomgeaa.PrintWords
