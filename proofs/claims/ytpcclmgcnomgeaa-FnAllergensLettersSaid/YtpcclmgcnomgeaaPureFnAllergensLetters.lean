/- FnAllergensLetters answers true at every list of bytes. -/
import Derived.Test.YtpcclmgcnomgeaaQFnAllergensLetters
import Derived.Laws.BitsLemmas
import Derived.Test.YtpcclmgcnomgeaaWSized
namespace Go.Proofs.Ytpcclmgcnomgeaa.Pure
open Go.RowKit Go.Proofs.Ytpcclmgcnomgeaa.PFnAllergensLetters Go.Proofs.YtpcclmgcnomgeaaW.PrintWords Go.Proofs.YtpcclmgcnomgeaaW.PrintLast
set_option linter.unusedSimpArgs false
set_option linter.unusedVariables false

/-! ### aj -/
/-- The number of all allergens of two sets; -1 where a number is invalid. -/
def AJ (a b : Int) : Int := if (0 ≤ a ∧ a ≤ 255) ∧ (0 ≤ b ∧ b ≤ 255) then ((a.toNat ||| b.toNat : Nat) : Int) else -1

/-! ### am -/
/-- The number of the common allergens of two sets; -1 where a number is invalid. -/
def AM (a b : Int) : Int := if (0 ≤ a ∧ a ≤ 255) ∧ (0 ≤ b ∧ b ≤ 255) then ((a.toNat &&& b.toNat : Nat) : Int) else -1

/-! ### ajfacts -/
theorem or_le (x y : Nat) (hx : x ≤ 255) (hy : y ≤ 255) : x ||| y ≤ 255 := by
  have := Nat.or_lt_two_pow (n := 8) (show x < 2 ^ 8 by omega) (show y < 2 ^ 8 by omega)
  omega
theorem and_le (x y : Nat) (hx : x ≤ 255) : x &&& y ≤ 255 := by
  have := Nat.and_le_left (n := x) (m := y)
  omega
theorem or_or (x y : Nat) : (x ||| y) ||| x = x ||| y := by
  apply Nat.eq_of_testBit_eq; intro i; simp only [Nat.testBit_or]; cases x.testBit i <;> cases y.testBit i <;> rfl
theorem or_and_l (x y : Nat) : (x ||| y) &&& x = x := by
  apply Nat.eq_of_testBit_eq; intro i; simp only [Nat.testBit_or, Nat.testBit_and]; cases x.testBit i <;> cases y.testBit i <;> rfl
theorem or_and_r (x y : Nat) : (x ||| y) &&& y = y := by
  apply Nat.eq_of_testBit_eq; intro i; simp only [Nat.testBit_or, Nat.testBit_and]; cases x.testBit i <;> cases y.testBit i <;> rfl
theorem and_or_l (x y : Nat) : (x &&& y) ||| x = x := by
  apply Nat.eq_of_testBit_eq; intro i; simp only [Nat.testBit_or, Nat.testBit_and]; cases x.testBit i <;> cases y.testBit i <;> rfl
theorem and_or_r (x y : Nat) : (x &&& y) ||| y = y := by
  apply Nat.eq_of_testBit_eq; intro i; simp only [Nat.testBit_or, Nat.testBit_and]; cases x.testBit i <;> cases y.testBit i <;> rfl
theorem aj_nat (x y : Nat) (hx : x ≤ 255) (hy : y ≤ 255) : AJ (x : Int) (y : Int) = ((x ||| y : Nat) : Int) := by
  unfold AJ; rw [if_pos ⟨⟨by omega, by omega⟩, by omega, by omega⟩]; rfl
theorem am_nat (x y : Nat) (hx : x ≤ 255) (hy : y ≤ 255) : AM (x : Int) (y : Int) = ((x &&& y : Nat) : Int) := by
  unfold AM; rw [if_pos ⟨⟨by omega, by omega⟩, by omega, by omega⟩]; rfl
theorem aj_bad (a b : Int) (h : ¬ ((0 ≤ a ∧ a ≤ 255) ∧ (0 ≤ b ∧ b ≤ 255))) : AJ a b = -1 := by
  unfold AJ; rw [if_neg h]
theorem am_bad (a b : Int) (h : ¬ ((0 ≤ a ∧ a ≤ 255) ∧ (0 ≤ b ∧ b ≤ 255))) : AM a b = -1 := by
  unfold AM; rw [if_neg h]

/-! ### textdefs -/
/-- The letters of a set. -/
def LT (x : Nat) : List Nat := (List.range 8).filter x.testBit
/-- The text of a set. -/
def TL (x : Nat) : List UInt8 := if x = 0 then [110, 111, 110, 101] else (LT x).map fun j => UInt8.ofNat (97 + j)
/-- The set of a text of a set. -/
def DL (l : List UInt8) : Nat := if l = [110, 111, 110, 101] then 0 else l.foldl (fun n c => n + 2 ^ (c.toNat - 97)) 0
def isT (a : Option ByteArray) (l : List UInt8) : Bool := match a with | some x => x.data.toList == l | _ => false
theorem isT_of (a : Option ByteArray) (l : List UInt8) (h : isT a l = true) : a = some ⟨l.toArray⟩ := by
  cases a with
  | none => simp [isT] at h
  | some x =>
    simp only [isT, beq_iff_eq] at h
    subst h
    rfl
set_option maxRecDepth 100000 in
theorem all_d : ∀ x : Fin 256, DL (TL x.val) = x.val := by decide +kernel
theorem tl_inj (x y : Nat) (hx : x ≤ 255) (hy : y ≤ 255) (h : TL x = TL y) : x = y := by
  have e1 : DL (TL x) = x := all_d ⟨x, by omega⟩
  have e2 : DL (TL y) = y := all_d ⟨y, by omega⟩
  rw [← e1, ← e2, h]
/-- The text of a set, as a string. -/
def TX (x : Nat) : ByteArray := ⟨(TL x).toArray⟩

/-! ### txfacts -/
set_option maxRecDepth 100000 in
theorem all_d2 : ∀ x : Fin 256, DL (TX x.val).toList = x.val := by decide +kernel
theorem tx_inj (x y : Nat) (hx : x ≤ 255) (hy : y ≤ 255) (h : (TX x).toList = (TX y).toList) : x = y := by
  have e1 : DL (TX x).toList = x := all_d2 ⟨x, by omega⟩
  have e2 : DL (TX y).toList = y := all_d2 ⟨y, by omega⟩
  rw [← e1, ← e2, h]
set_option maxRecDepth 100000 in
theorem all_ne : ∀ x : Fin 256, ¬ (TX x.val).toList = [] := by decide +kernel
theorem tx_ne (x : Nat) (hx : x ≤ 255) : ¬ (TX x).toList = [] := all_ne ⟨x, by omega⟩
theorem no_list : (⟨#[]⟩ : ByteArray).toList = [] := by decide +kernel
set_option maxRecDepth 100000 in
theorem all_size : ∀ x : Fin 256, (TX x.val).size ≤ 8 := by decide +kernel
theorem tx_size (x : Nat) (hx : x ≤ 255) : (TX x).size ≤ 8 := all_size ⟨x, by omega⟩

/-! ### core -/
theorem k_in (a b c : Int) : spec_l6In.f a b c = some (decide (b ≤ a ∧ a ≤ c)) := by
  unfold spec_l6In.f
  by_cases h : b ≤ a <;> simp [h]
theorem i_in (a b c : Int) : impl_within.f a b c = some (decide (b ≤ a ∧ a ≤ c)) := by
  unfold impl_within.f
  by_cases h : b ≤ a <;> simp [h]
theorem w_ (n : Int) (h : -9223372036854775808 ≤ n) (h' : n ≤ 9223372036854775807) : wrap64 n = n := by unfold wrap64; omega
theorem div_low (a b : Int) (hb : 0 < b) : (a / b) * b ≤ a := Int.ediv_mul_le a (by omega)
theorem div_high (a b : Int) (hb : 0 < b) : a < (a / b) * b + b := by
  have h := Int.lt_ediv_add_one_mul_self a hb
  rw [Int.add_mul] at h
  omega
theorem div_is (a b q : Int) (hb : 0 < b) (h1 : q * b ≤ a) (h2 : a < q * b + b) : a / b = q := by
  have h3 := Int.le_ediv_of_mul_le hb h1
  have h4 : a / b < q + 1 := Int.ediv_lt_of_lt_mul hb (by rw [Int.add_mul]; omega)
  omega

/-! ### iset -/
theorem i_set (a : Int) : impl_isSet.f a = some (decide (0 ≤ a ∧ a ≤ 255)) := by
  unfold impl_isSet.f
  rw [i_in]; rfl

/-! ### itext -/
set_option maxRecDepth 100000 in
theorem all_i : ∀ x : Fin 256, isT (impl_AllergensText.f 60 (x.val : Int)) (TL x.val) = true := by decide +kernel
theorem text_i (k x : Nat) (hk : 60 ≤ k) (hx : x ≤ 255) : impl_AllergensText.f k (x : Int) = some (TX x) :=
  at_rounds (impl_AllergensText.mono _) hk (isT_of _ _ (all_i ⟨x, by omega⟩))
theorem i_notext (k : Nat) (a : Int) (h : ¬ (0 ≤ a ∧ a ≤ 255)) : impl_AllergensText.f k a = some ⟨#[]⟩ := by
  unfold impl_AllergensText.f
  rw [i_set]; simp [h]

/-! ### icount -/
/-- How many of the eight allergens a set has. -/
def CN (x : Nat) : Nat := ((List.range 8).filter x.testBit).length
set_option maxRecDepth 100000 in
theorem all_ic : ∀ x : Fin 256, (impl_AllergensCount.f (x.val : Int) == some (CN x.val : Int)) = true := by decide +kernel
theorem i_count (x : Nat) (hx : x ≤ 255) : impl_AllergensCount.f (x : Int) = some (CN x : Int) := by
  have h := all_ic ⟨x, by omega⟩
  simpa using h
theorem i_nocount (a : Int) (h : ¬ (0 ≤ a ∧ a ≤ 255)) : impl_AllergensCount.f a = some (-1) := by
  unfold impl_AllergensCount.f
  rw [i_set]; simp [h]

/-! ### kset -/
theorem k_set (a : Int) : spec_l3Set.f a = some (decide (0 ≤ a ∧ a ≤ 255)) := by
  unfold spec_l3Set.f
  rw [k_in]; rfl

/-! ### has -/
theorem weights : ∀ i : Fin 8, spec_l3Weight.f 20 (i.val : Int) = some ((2 ^ i.val : Nat) : Int) := by decide +kernel
theorem weight_ (k j : Nat) (hk : 20 ≤ k) (hj : j ≤ 7) : spec_l3Weight.f k (j : Int) = some ((2 ^ j : Nat) : Int) :=
  at_rounds (spec_l3Weight.mono _) hk (weights ⟨j, by omega⟩)
theorem pow_in (j : Nat) (hj : j ≤ 7) : 1 ≤ 2 ^ j ∧ 2 ^ j ≤ 128 :=
  ⟨Nat.one_le_two_pow, Nat.pow_le_pow_right (n := 2) (by decide) hj⟩
theorem has_ (k x j : Nat) (hk : 20 ≤ k) (hx : x ≤ 255) (hj : j ≤ 7) : spec_l3Has.f k (x : Int) (j : Int) = some (x.testBit j) := by
  obtain ⟨p0, p1⟩ := pow_in j hj
  unfold spec_l3Has.f
  rw [weight_ k j hk hj]; simp only [Option.bind_some]
  have hq := Nat.div_le_self x (2 ^ j)
  have e0 : Int.tdiv (x : Int) ((2 ^ j : Nat) : Int) = ((x / 2 ^ j : Nat) : Int) := by
    rw [Int.tdiv_eq_ediv_of_nonneg (by omega), ← Int.natCast_ediv]
  rw [if_neg (by omega), e0, Nat.testBit_eq_decide_div_mod_eq]
  generalize x / 2 ^ j = q at *
  rw [w_ _ (by omega) (by omega), Int.tmod_eq_emod_of_nonneg (by omega)]
  by_cases h : q % 2 = 1
  · have h' : (q : Int) % 2 = 1 := by omega
    rw [h']; simp [h]
  · have h' : (q : Int) % 2 = 0 := by omega
    rw [h']; simp [h]

/-! ### bitsum -/
/-- The sum of the weights below n of those numbers that c has. -/
def SB (c : Nat → Bool) : Nat → Nat
  | 0 => 0
  | n + 1 => SB c n + if c n then 2 ^ n else 0
theorem sb_bits (z : Nat) : ∀ n, SB z.testBit n = z % 2 ^ n
  | 0 => by simp [SB, Nat.mod_one]
  | n + 1 => by
    have hb : z / 2 ^ n % 2 = 0 ∨ z / 2 ^ n % 2 = 1 := by omega
    rw [SB, sb_bits z n, Nat.mod_pow_succ, Nat.testBit_eq_decide_div_mod_eq]
    rcases hb with h | h <;> rw [h] <;> simp
theorem sb_lt (c : Nat → Bool) : ∀ n, SB c n < 2 ^ n
  | 0 => by simp [SB]
  | n + 1 => by
    have h := sb_lt c n
    rw [SB, Nat.pow_succ]
    split <;> omega
theorem sb_congr (c d : Nat → Bool) (h : ∀ j, c j = d j) (n : Nat) : SB c n = SB d n := by rw [show c = d from funext h]
theorem sb_or (x y : Nat) (hx : x < 256) (hy : y < 256) : SB (fun j => x.testBit j || y.testBit j) 8 = x ||| y := by
  rw [sb_congr _ (x ||| y).testBit (fun j => (Nat.testBit_or ..).symm) 8, sb_bits]
  exact Nat.mod_eq_of_lt (Nat.or_lt_two_pow (n := 8) hx hy)
theorem sb_and (x y : Nat) (hy : y < 256) : SB (fun j => x.testBit j && y.testBit j) 8 = x &&& y := by
  rw [sb_congr _ (x &&& y).testBit (fun j => (Nat.testBit_and ..).symm) 8, sb_bits]
  exact Nat.mod_eq_of_lt (Nat.and_lt_two_pow (n := 8) x hy)

/-! ### kmeet -/
theorem meet_step (k x y o j : Nat) (hk : 20 ≤ k) (hx : x ≤ 255) (hy : y ≤ 255) (ho : o ≤ 1000) (hj : j ≤ 7) :
    spec_l3Meet.l0 (k + 1) (x : Int) (y : Int) (o : Int) (j : Int) = spec_l3Meet.l0 k (x : Int) (y : Int) ((o + (if x.testBit j && y.testBit j then 2 ^ j else 0) : Nat) : Int) ((j + 1 : Nat) : Int) := by
  obtain ⟨p0, p1⟩ := pow_in j hj
  have e1 : wrap64 ((j : Int) + 1) = ((j + 1 : Nat) : Int) := by rw [w_ _ (by omega) (by omega)]; omega
  have e2 : wrap64 ((o : Int) + ((2 ^ j : Nat) : Int)) = ((o + 2 ^ j : Nat) : Int) := by rw [w_ _ (by omega) (by omega)]; omega
  simp only [spec_l3Meet.l0]
  rw [if_pos (by omega), has_ k x j hk hx hj, has_ k y j hk hy hj, weight_ k j hk hj]
  simp only [Option.bind_some, e1, e2]
  cases x.testBit j <;> cases y.testBit j <;> simp
theorem meet_loop (x y : Nat) (hx : x ≤ 255) (hy : y ≤ 255) : ∀ (d k j : Nat), j + d = 8 → d + 20 < k →
    spec_l3Meet.l0 k (x : Int) (y : Int) ((SB (fun j => x.testBit j && y.testBit j) j : Nat) : Int) (j : Int) = some ((SB (fun j => x.testBit j && y.testBit j) 8 : Nat) : Int)
  | 0, k, j, hj, hk => by
    obtain ⟨k, rfl⟩ : ∃ m, k = m + 1 := ⟨k - 1, by omega⟩
    obtain rfl : j = 8 := by omega
    simp only [spec_l3Meet.l0]
    rw [if_neg (by omega)]
  | d + 1, k, j, hj, hk => by
    obtain ⟨k, rfl⟩ : ∃ m, k = m + 1 := ⟨k - 1, by omega⟩
    have h := sb_lt (fun j => x.testBit j && y.testBit j) j
    obtain ⟨p0, p1⟩ := pow_in j (by omega)
    rw [meet_step k x y _ j (by omega) hx hy (by omega) (by omega)]
    exact meet_loop x y hx hy d k (j + 1) (by omega) (by omega)
theorem k_mt (k : Nat) (x y : Nat) (hk : 40 ≤ k) (hx : x ≤ 255) (hy : y ≤ 255) : spec_l3Meet.f k (x : Int) (y : Int) = some ((x &&& y : Nat) : Int) := by
  unfold spec_l3Meet.f
  have h := meet_loop x y hx hy 8 k 0 (by omega) (by omega)
  rw [sb_and x y (by omega)] at h
  exact h
theorem k_meet (k : Nat) (a b : Int) (hk : 40 ≤ k) : spec_AllergensMeet.f k a b = some (AM a b) := by
  unfold spec_AllergensMeet.f AM
  rw [k_set, k_set]
  by_cases h : 0 ≤ a ∧ a ≤ 255
  · by_cases g : 0 ≤ b ∧ b ≤ 255
    · obtain ⟨x, rfl⟩ := Int.eq_ofNat_of_zero_le h.1
      obtain ⟨y, rfl⟩ := Int.eq_ofNat_of_zero_le g.1
      rw [k_mt k x y hk (by omega) (by omega)]
      simp [h, g]
    · simp [h, g]
  · simp [h]

/-! ### bitops -/
theorem wraps_i64 (n : Int) (h0 : 0 ≤ n) (h1 : n < 2 ^ 8) : IntKind.i64.wrap n = n := by rw [Go.IntKind.wrap_i64]; omega
theorem or_nat (x y : Nat) (hx : x ≤ 255) (hy : y ≤ 255) : Go.bits .or .i64 (x : Int) (y : Int) = ((x ||| y : Nat) : Int) :=
  (Go.bits_nat .i64 8 (by decide) wraps_i64 x y (by omega) (by omega)).2
theorem and_nat (x y : Nat) (hx : x ≤ 255) (hy : y ≤ 255) : Go.bits .and .i64 (x : Int) (y : Int) = ((x &&& y : Nat) : Int) :=
  (Go.bits_nat .i64 8 (by decide) wraps_i64 x y (by omega) (by omega)).1

/-! ### imeet -/
theorem i_meet (a b : Int) : impl_AllergensMeet.f a b = some (AM a b) := by
  unfold impl_AllergensMeet.f AM
  rw [i_set, i_set]
  by_cases h : 0 ≤ a ∧ a ≤ 255
  · by_cases g : 0 ≤ b ∧ b ≤ 255
    · obtain ⟨x, rfl⟩ := Int.eq_ofNat_of_zero_le h.1
      obtain ⟨y, rfl⟩ := Int.eq_ofNat_of_zero_le g.1
      rw [and_nat x y (by omega) (by omega)]
      simp [h, g]
    · simp [h, g]
  · simp [h]

/-! ### pick -/
/-- What a reader of draws holds: at most 2000 bytes. -/
def Ok (s : List Int) : Prop := s.length ≤ 2000 ∧ ∀ x ∈ s, 0 ≤ x ∧ x ≤ 255
theorem rd_ok {s : List Int} (h : Ok s) (i : Int) : 0 ≤ rd s i ∧ rd s i ≤ 255 := by
  unfold rd
  rw [List.getD_eq_getElem?_getD]
  cases e : s[i.toNat]? with
  | none => simp
  | some x => simpa using h.2 x (List.mem_of_getElem? e)
theorem xor_nonneg (x y : Int) (hx : 0 ≤ x) (hx' : x < 9223372036854775808) (hy : 0 ≤ y) (hy' : y < 9223372036854775808) : 0 ≤ Go.bits .xor .i64 x y := by
  obtain ⟨a, rfl⟩ := Int.eq_ofNat_of_zero_le hx
  obtain ⟨b, rfl⟩ := Int.eq_ofNat_of_zero_le hy
  have ha : a < 2 ^ 63 := by omega
  have hb : b < 2 ^ 63 := by omega
  have hc := Nat.xor_lt_two_pow ha hb
  have e1 : a % 2 ^ IntKind.i64.bits = a := Nat.mod_eq_of_lt (Nat.lt_of_lt_of_le ha (Nat.pow_le_pow_right (by decide) (by decide)))
  have e2 : b % 2 ^ IntKind.i64.bits = b := Nat.mod_eq_of_lt (Nat.lt_of_lt_of_le hb (Nat.pow_le_pow_right (by decide) (by decide)))
  simp only [Go.bits, BitVec.ofInt_natCast, BitVec.toNat_xor, BitVec.toNat_ofNat, e1, e2]
  rw [Go.IntKind.wrap_i64]
  omega
theorem pick_ok (k : Nat) (s : List Int) (p n : Int) (hk : 1 ≤ k) (hs : Ok s) (hp : 0 ≤ p) (hp' : p ≤ 1000000) :
    ∃ r, spec_l6Rd_pick.f k s p n = some (r, p + 1) ∧ 0 ≤ r ∧ (1 ≤ n → r < n) ∧ (n < 1 → r = 0) := by
  obtain ⟨k, rfl⟩ : ∃ m, k = m + 1 := ⟨k - 1, by omega⟩
  unfold spec_l6Rd_pick.f
  have e : wrap64 (p + 1) = p + 1 := w_ _ (by omega) (by omega)
  have e' : wrap64 (p + 1 - 1) = p := by rw [w_ _ (by omega) (by omega)]; omega
  rw [e]
  by_cases hn : n < 1
  · rw [if_pos hn]
    refine ⟨0, ?_, by omega, by omega, by omega⟩
    simp [spec_l6Rd_pick.j0]
  · rw [if_neg hn]
    by_cases hl : (s.length : Int) = 0
    · rw [beq_iff_eq.mpr hl]
      refine ⟨0, ?_, by omega, by omega, by omega⟩
      simp [spec_l6Rd_pick.j0]
    · rw [beq_eq_false_iff_ne.mpr hl]
      have hl' : (s.length : Int) ≤ 2000 := by have := hs.1; omega
      simp only [spec_l6Rd_pick.j0, e']
      rw [if_neg (by simp)]
      by_cases c : p < (s.length : Int)
      · rw [if_pos c, if_pos hp, if_neg (by omega)]
        obtain ⟨r0, r1⟩ := rd_ok hs p
        rw [w_ (rd s p) (by omega) (by omega)]
        exact ⟨_, rfl, Int.tmod_nonneg _ r0, fun _ => Int.tmod_lt_of_pos _ (by omega), by omega⟩
      · have a1 := Int.tmod_nonneg (s.length : Int) hp
        have a2 := Int.tmod_lt_of_pos p (b := (s.length : Int)) (by omega)
        have a3 : wrap64 (wrap64 (p * 7) + 3) = p * 7 + 3 := by rw [w_ (p * 7) (by omega) (by omega), w_ _ (by omega) (by omega)]
        have a4 := Int.tmod_nonneg (s.length : Int) (a := p * 7 + 3) (by omega)
        have a5 := Int.tmod_lt_of_pos (p * 7 + 3) (b := (s.length : Int)) (by omega)
        rw [if_neg c, if_neg hl, if_pos a1, if_pos a2, a3, if_pos a4, if_pos a5, if_neg (by omega)]
        obtain ⟨r0, r1⟩ := rd_ok hs (Int.tmod p (s.length : Int))
        obtain ⟨q0, q1⟩ := rd_ok hs (Int.tmod (p * 7 + 3) (s.length : Int))
        generalize rd s (Int.tmod p (s.length : Int)) = A at *
        generalize rd s (Int.tmod (p * 7 + 3) (s.length : Int)) = B at *
        have d0 : 0 ≤ Int.tdiv p (s.length : Int) := Int.tdiv_nonneg hp (by omega)
        have d1 : Int.tdiv p (s.length : Int) ≤ p := by rw [Int.tdiv_eq_ediv_of_nonneg hp]; exact Int.ediv_le_self _ hp
        generalize Int.tdiv p (s.length : Int) = D at *
        simp (disch := omega) only [w_]
        have x0 : 0 ≤ A * 131 + B * 1117 + p * 29 + D * 53 := by omega
        have x1 : A * 131 + B * 1117 + p * 29 + D * 53 ≤ 100000000 := by omega
        generalize A * 131 + B * 1117 + p * 29 + D * 53 = X at *
        have y0 : 0 ≤ Int.tdiv X 64 := Int.tdiv_nonneg x0 (by omega)
        have y1 : Int.tdiv X 64 ≤ X := by rw [Int.tdiv_eq_ediv_of_nonneg x0]; exact Int.ediv_le_self _ x0
        simp (disch := omega) only [w_]
        exact ⟨_, rfl, Int.tmod_nonneg _ (xor_nonneg _ _ (by omega) (by omega) (by omega) (by omega)), fun _ => Int.tmod_lt_of_pos _ (by omega), by omega⟩
theorem open_ok (l : List Int) (h : ∀ x ∈ l, (Lit.int .u8 x).wf = true) : ∃ s, spec_l6Open.f l = some (s, 0) ∧ Ok s := by
  have b : ∀ x ∈ l, 0 ≤ x ∧ x ≤ 255 := fun x hx => by
    have := h x hx
    simp [Lit.wf, IntKind.min, IntKind.max, IntKind.bits, IntKind.signed] at this
    omega
  unfold spec_l6Open.f
  by_cases c : (l.length : Int) > 2000
  · rw [if_pos c, if_pos (by omega)]
    exact ⟨_, rfl, by rw [List.length_take]; omega, fun x hx => b x (List.mem_of_mem_take hx)⟩
  · rw [if_neg c]
    exact ⟨_, rfl, by omega, b⟩

/-! ### dset -/
theorem set_loop (s : List Int) (hs : Ok s) : ∀ (d k j : Nat) (o p : Int), j + d = 8 → d + 20 < k → 0 ≤ p → p + d ≤ 100000 → ∃ n q, spec_l91Set.l0 k o (j : Int) s p = some (n, q) ∧ p ≤ q ∧ q ≤ p + d
  | 0, k, j, o, p, hj, hk, h0, h1 => by
    obtain ⟨k, rfl⟩ : ∃ r, k = r + 1 := ⟨k - 1, by omega⟩
    refine ⟨o, p, ?_, by omega, by omega⟩
    simp only [spec_l91Set.l0]
    rw [if_neg (by omega)]
  | d + 1, k, j, o, p, hj, hk, h0, h1 => by
    obtain ⟨k, rfl⟩ : ∃ r, k = r + 1 := ⟨k - 1, by omega⟩
    have e : wrap64 ((j : Int) + 1) = ((j + 1 : Nat) : Int) := by rw [w_ _ (by omega) (by omega)]; omega
    obtain ⟨r, er, _⟩ := pick_ok k s p 4 (by omega) hs h0 (by omega)
    simp only [spec_l91Set.l0]
    rw [if_pos (by omega), er, e]
    simp only [Option.bind_some]
    by_cases c : r = 0
    · rw [if_pos c, weight_ k j (by omega) (by omega)]
      simp only [Option.bind_some]
      obtain ⟨n, q, g, g0, g1⟩ := set_loop s hs d k (j + 1) (wrap64 (o + ((2 ^ j : Nat) : Int))) (p + 1) (by omega) (by omega) (by omega) (by omega)
      exact ⟨n, q, g, by omega, by omega⟩
    · rw [if_neg c]
      obtain ⟨n, q, g, g0, g1⟩ := set_loop s hs d k (j + 1) o (p + 1) (by omega) (by omega) (by omega) (by omega)
      exact ⟨n, q, g, by omega, by omega⟩
theorem set_ok (k : Nat) (s : List Int) (p : Int) (hk : 40 ≤ k) (hs : Ok s) (hp : 0 ≤ p) (hp' : p ≤ 10000) : ∃ n q, spec_l91Set.f k s p = some (n, q) ∧ p ≤ q ∧ q ≤ p + 9 := by
  unfold spec_l91Set.f
  obtain ⟨r1, e1, a1, b1, c1⟩ := pick_ok k s p 24 (by omega) hs hp (by omega)
  rw [e1]; simp only [Option.bind_some]
  by_cases h : r1 = 0
  · obtain ⟨r2, e2, a2, b2, c2⟩ := pick_ok k s (p + 1) 3 (by omega) hs (by omega) (by omega)
    rw [if_pos h, e2]; simp only [Option.bind_some, List.length_cons, List.length_nil]
    rw [if_pos a2, if_pos (by have := b2 (by omega); omega)]
    exact ⟨_, _, rfl, by omega, by omega⟩
  · rw [if_neg h]
    obtain ⟨n, q, g, g0, g1⟩ := set_loop s hs 8 k 0 0 (p + 1) (by omega) (by omega) (by omega) (by omega)
    exact ⟨n, q, g, by omega, by omega⟩

/-! ### djoin -/
theorem djoin_ok (k : Nat) (l : List Int) (hk : 40 ≤ k) (hl : ∀ x ∈ l, (Lit.int .u8 x).wf = true) : ∃ a b, spec_DrawAllergensJoin.f k l = some (a, b) := by
  unfold spec_DrawAllergensJoin.f
  obtain ⟨s, es, hs⟩ := open_ok l hl
  obtain ⟨a, p, e1, p1, p2⟩ := set_ok k s 0 hk hs (by omega) (by omega)
  obtain ⟨b, q, e2, q1, q2⟩ := set_ok k s p hk hs (by omega) (by omega)
  rw [es]; simp only [Option.bind_some]
  rw [e1]; simp only [Option.bind_some]
  rw [e2]; simp only [Option.bind_some]
  exact ⟨_, _, rfl⟩

/-! ### dmeet -/
theorem dmeet_ok (k : Nat) (l : List Int) (hk : 40 ≤ k) (hl : ∀ x ∈ l, (Lit.int .u8 x).wf = true) : ∃ a b, spec_DrawAllergensMeet.f k l = some (a, b) := by
  unfold spec_DrawAllergensMeet.f
  obtain ⟨a, b, e⟩ := djoin_ok k l hk hl
  rw [e]
  exact ⟨_, _, rfl⟩

theorem all_lt (x : Nat) : ∀ c ∈ LT x, c < 8 := by
  intro c hc
  have := (List.mem_filter.1 hc).1
  simpa using this
set_option maxRecDepth 100000 in
theorem all_once : ∀ y : Fin 256, ∀ c : Fin 8, ((LT y.val).filter fun d => d == c.val).length = if y.val.testBit c.val then 1 else 0 := by decide +kernel
set_option maxRecDepth 100000 in
theorem all_bytes : ∀ x : Fin 256, 0 < x.val → bytesOf (TX x.val) = (LT x.val).map fun (j : Nat) => (97 : Int) + (j : Int) := by decide +kernel
theorem size_lt (x : Nat) (hx : x ≤ 255) (h : 0 < x) : ((TX x).size : Int) = ((LT x).length : Int) := by
  have := bytesOf_length (TX x)
  rw [all_bytes ⟨x, by omega⟩ h, List.length_map] at this
  simp only at this
  omega
theorem bt_lt (x i : Nat) (hx : x ≤ 255) (h : 0 < x) (hi : i < (LT x).length) : bt (TX x) (i : Int) = 97 + ((LT x)[i] : Int) := by
  rw [← rd_bytesOf, all_bytes ⟨x, by omega⟩ h]
  simp [rd, hi]
/-- How often a letter is among those of a list. -/
def cnt (c : Nat) (l : List Nat) : Nat := (l.filter fun d => d == c).length
theorem cnt_drop (c : Nat) (l : List Nat) (m : Nat) (h : m < l.length) : cnt c (l.drop m) = (if l[m] = c then 1 else 0) + cnt c (l.drop (m + 1)) := by
  unfold cnt
  rw [List.drop_eq_getElem_cons h, List.filter_cons]
  by_cases e : l[m] = c
  · simp [e]; omega
  · simp [e]
/-- How many of the letters of the first i are among those of y. -/
def com (x y i : Nat) : Nat := (((LT x).take i).filter y.testBit).length
theorem com_succ (x y i : Nat) (h : i < (LT x).length) : com x y (i + 1) = com x y i + if y.testBit (LT x)[i] then 1 else 0 := by
  unfold com
  rw [List.take_succ_eq_append_getElem h, List.filter_append]
  by_cases e : y.testBit (LT x)[i] = true
  · simp [e]
  · simp [e]
theorem com_le (x y i : Nat) : com x y i ≤ 8 := by
  unfold com
  have a := List.length_filter_le y.testBit ((LT x).take i)
  have b := List.length_filter_le x.testBit (List.range 8)
  have c := List.length_take_le' i (LT x)
  rw [List.length_range] at b
  unfold LT at a c ⊢
  omega
theorem com_all (x y : Nat) : com x y (LT x).length = CN (x &&& y) := by
  unfold com CN LT
  rw [List.take_length, List.filter_filter]
  congr 1
  apply List.filter_congr
  intro j _
  rw [Nat.testBit_and, Bool.and_comm]
theorem lt_len (x : Nat) : (LT x).length ≤ 8 := by
  have b := List.length_filter_le x.testBit (List.range 8)
  rw [List.length_range] at b
  exact b
theorem once (y c : Nat) (hy : y ≤ 255) (hc : c < 8) : cnt c ((LT y).drop 0) = if y.testBit c then 1 else 0 := all_once ⟨y, by omega⟩ ⟨c, hc⟩
theorem up1 (j : Nat) (h : j ≤ 100000) : wrap64 ((j : Int) + 1) = ((j + 1 : Nat) : Int) := by rw [w_ _ (by omega) (by omega)]; omega
theorem cn_and_zero_l (y : Nat) : CN (0 &&& y) = 0 := by rw [Nat.zero_and]; decide
theorem cn_and_zero_r (x : Nat) : CN (x &&& 0) = 0 := by rw [Nat.and_zero]; decide
attribute [local irreducible] TX LT cnt com CN
theorem inner (x y : Nat) (z0 : Int) (t : ByteArray) (hx : x ≤ 255) (hy : y ≤ 255) (px : 0 < x) (py : 0 < y) (i : Nat) (hi : i < (LT x).length) (F : Nat) :
    ∀ (d k m c : Nat), m + d = (LT y).length → d + F < k → c + d ≤ 1000 →
    (∀ k', F ≤ k' → laws_FnAllergensLetters.l0 k' (x : Int) (y : Int) z0 (TX x) (TX y) t ((c + cnt (LT x)[i] ((LT y).drop m) : Nat) : Int) ((i + 1 : Nat) : Int) = some true) →
    laws_FnAllergensLetters.l1 k (x : Int) (y : Int) z0 (TX x) (TX y) t (c : Int) (i : Int) (m : Int) = some true
  | 0, k, m, c, hm, hk, hc, h => by
    obtain ⟨k, rfl⟩ : ∃ r, k = r + 1 := ⟨k - 1, by omega⟩
    obtain rfl : m = (LT y).length := by omega
    have lx := lt_len x
    have e := up1 i (by omega)
    simp only [laws_FnAllergensLetters.l1]
    rw [size_lt y hy py, if_neg (by omega), e]
    have := h k (by omega)
    simpa [cnt] using this
  | d + 1, k, m, c, hm, hk, hc, h => by
    obtain ⟨k, rfl⟩ : ∃ r, k = r + 1 := ⟨k - 1, by omega⟩
    have ly := lt_len y
    have hmy : m < (LT y).length := by omega
    simp only [laws_FnAllergensLetters.l1]
    rw [size_lt y hy py, size_lt x hx px, if_pos (by omega), if_pos (by omega), if_pos (by omega), if_pos (by omega), bt_lt x i hx px hi, bt_lt y m hy py hmy, up1 m (by omega), up1 c (by omega)]
    by_cases g : (LT y)[m] = (LT x)[i]
    · rw [if_pos (by rw [g])]
      refine inner x y z0 t hx hy px py i hi F d k (m + 1) (c + 1) (by omega) (by omega) (by omega) fun k' hk' => ?_
      have := h k' hk'
      rw [cnt_drop (LT x)[i] (LT y) m hmy, if_pos g] at this
      rw [show c + 1 + cnt (LT x)[i] ((LT y).drop (m + 1)) = c + (1 + cnt (LT x)[i] ((LT y).drop (m + 1))) by omega]
      exact this
    · rw [if_neg (by have := g; omega)]
      refine inner x y z0 t hx hy px py i hi F d k (m + 1) c (by omega) (by omega) (by omega) fun k' hk' => ?_
      have := h k' hk'
      rw [cnt_drop (LT x)[i] (LT y) m hmy, if_neg g, Nat.zero_add] at this
      exact this
theorem finish (x y : Nat) (z0 : Int) (a b t : ByteArray) (n i : Int) (k c : Nat) (hz : impl_AllergensCount.f z0 = some (c : Int)) (hn : n = (c : Int)) (ht : c = 0 ∨ (t.size : Int) = (c : Int)) (hk : 1 ≤ k) :
    laws_FnAllergensLetters.j2 k (x : Int) (y : Int) z0 a b t n i false = some true := by
  obtain ⟨k, rfl⟩ : ∃ r, k = r + 1 := ⟨k - 1, by omega⟩
  simp only [laws_FnAllergensLetters.j2]
  rw [if_neg (by simp), hz]
  simp only [Option.bind_some]
  rw [if_pos hn]
  rcases ht with h | h
  · rw [if_pos (by omega)]
  · by_cases g : n = 0
    · rw [if_pos g]
    · rw [if_neg g, h, hn]; simp
theorem outer (x y : Nat) (t : ByteArray) (hx : x ≤ 255) (hy : y ≤ 255) (px : 0 < x) (py : 0 < y) (ht : CN (x &&& y) = 0 ∨ (t.size : Int) = (CN (x &&& y) : Int)) :
    ∀ (d k i : Nat), i + d = (LT x).length → d * 20 + 10 < k →
    laws_FnAllergensLetters.l0 k (x : Int) (y : Int) ((x &&& y : Nat) : Int) (TX x) (TX y) t ((com x y i : Nat) : Int) (i : Int) = some true
  | 0, k, i, hi, hk => by
    obtain ⟨k, rfl⟩ : ∃ r, k = r + 1 := ⟨k - 1, by omega⟩
    obtain rfl : i = (LT x).length := by omega
    simp only [laws_FnAllergensLetters.l0]
    rw [size_lt x hx px, if_neg (by omega), com_all]
    exact finish x y _ _ _ t _ _ k (CN (x &&& y)) (i_count _ (and_le x y hx)) rfl ht (by omega)
  | d + 1, k, i, hi, hk => by
    obtain ⟨k, rfl⟩ : ∃ r, k = r + 1 := ⟨k - 1, by omega⟩
    obtain ⟨k, rfl⟩ : ∃ r, k = r + 1 := ⟨k - 1, by omega⟩
    have ly := lt_len y
    have hxi : i < (LT x).length := by omega
    have cl := com_le x y i
    simp only [laws_FnAllergensLetters.l0]
    rw [size_lt x hx px, if_pos (by omega), if_pos (by omega), decide_eq_true (show (y : Int) > 0 by omega)]
    simp only [laws_FnAllergensLetters.j2, if_true]
    refine inner x y _ t hx hy px py i hxi (d * 20 + 11) (LT y).length k 0 (com x y i) (by omega) (by omega) (by omega) fun k' hk' => ?_
    have r := outer x y t hx hy px py ht d k' (i + 1) (by omega) (by omega)
    rw [com_succ x y i hxi] at r
    rw [once y _ hy (all_lt x _ (List.getElem_mem hxi))]
    exact r
set_option maxRecDepth 100000 in
theorem all_sz : ∀ x : Fin 256, CN x.val = 0 ∨ ((TX x.val).size : Int) = (CN x.val : Int) := by decide +kernel
theorem FnAllergensLetters (l : List Int) (_ : l.length ≤ maxLen) (hl : ∀ x ∈ l, (Lit.int .u8 x).wf = true) : ∃ k, laws_FnAllergensLetters.f k l = some true := by
  refine ⟨500, ?_⟩
  unfold laws_FnAllergensLetters.f
  by_cases c : (l.length : Int) > 1048576
  · rw [if_pos c]
  · obtain ⟨a, b, e⟩ := dmeet_ok 500 l (by omega) hl
    rw [if_neg c, e]; simp only [Option.bind_some]
    rw [i_meet, k_meet 500 _ _ (by omega)]; simp only [Option.bind_some, if_true]
    show laws_FnAllergensLetters.j0 (499 + 1) _ _ _ _ _ = _
    simp only [laws_FnAllergensLetters.j0]
    by_cases h : (0 ≤ a ∧ a ≤ 255) ∧ (0 ≤ b ∧ b ≤ 255)
    · obtain ⟨x, rfl⟩ := Int.eq_ofNat_of_zero_le h.1.1
      obtain ⟨y, rfl⟩ := Int.eq_ofNat_of_zero_le h.2.1
      have hx : x ≤ 255 := by omega
      have hy : y ≤ 255 := by omega
      have hz := and_le x y hx
      rw [am_nat x y hx hy, if_neg (by simp), text_i 499 x (by omega) hx, text_i 499 y (by omega) hy, text_i 499 _ (by omega) hz]
      simp only [Option.bind_some]
      have ht := all_sz ⟨x &&& y, by omega⟩
      have cz := i_count _ hz
      by_cases px : 0 < x
      · by_cases py : 0 < y
        · have lx := lt_len x
          have r := outer x y (TX (x &&& y)) hx hy px py ht (LT x).length 499 0 (by omega) (by omega)
          have c0 : com x y 0 = 0 := by simp [com]
          rw [c0] at r
          exact r
        · obtain rfl : y = 0 := by omega
          rw [cn_and_zero_r] at cz
          show laws_FnAllergensLetters.l0 (498 + 1) _ _ _ _ _ _ _ _ = _
          simp only [laws_FnAllergensLetters.l0]
          rw [decide_eq_false (show ¬ ((0 : Nat) : Int) > 0 by omega)]
          have f := finish x 0 _ (TX x) (TX 0) (TX (x &&& 0)) 0 0 498 0 cz rfl (.inl rfl) (by omega)
          rw [f]
          simp
      · obtain rfl : x = 0 := by omega
        rw [cn_and_zero_l] at cz
        show laws_FnAllergensLetters.l0 (498 + 1) _ _ _ _ _ _ _ _ = _
        simp only [laws_FnAllergensLetters.l0]
        rw [if_neg (show ¬ ((0 : Nat) : Int) > 0 by omega)]
        have f := finish 0 y _ (TX 0) (TX y) (TX (0 &&& y)) 0 0 498 0 cz rfl (.inl rfl) (by omega)
        rw [f]
        simp
    · rw [am_bad a b h]; simp

end Go.Proofs.Ytpcclmgcnomgeaa.Pure

namespace Go.Proofs.Ytpcclmgcnomgeaa.PrintWords
/-- The printed row looks for the word under this name. -/
abbrev sized_ints := @Go.Proofs.YtpcclmgcnomgeaaW.PrintWords.sized_ints
end Go.Proofs.Ytpcclmgcnomgeaa.PrintWords
