/- FnExactClockParse answers true at every string. -/
import Derived.Test.YtdedhnlgjegbhaaDoorQFnExactClockParse
import Derived.Lib.Strings
namespace Go.Proofs.YtdedhnlgjegbhaaDoor.Pure
open Go.RowKit Go.Proofs.YtdedhnlgjegbhaaDoor.PFnExactClockParse Go.Proofs.YtdedhnlgjegbhaaDoorW.PrintWords Go.Proofs.YtdedhnlgjegbhaaDoorW.PrintLast
set_option linter.unusedSimpArgs false
set_option linter.unusedVariables false

/-! ### core -/
theorem k_in (a b c : Int) : spec_l6In.f a b c = some (decide (b ≤ a ∧ a ≤ c)) := by
  unfold spec_l6In.f
  by_cases h : b ≤ a <;> simp [h]
theorem i_in (a b c : Int) : impl_within.f a b c = some (decide (b ≤ a ∧ a ≤ c)) := by
  unfold impl_within.f
  by_cases h : b ≤ a <;> simp [h]
theorem w_ (n : Int) (h : -9223372036854775808 ≤ n) (h' : n ≤ 9223372036854775807) : wrap64 n = n := by unfold wrap64; omega
theorem div_low (a b : Int) (hb : 0 < b) : (a / b) * b ≤ a := Int.ediv_mul_le a (by omega)
theorem div_high (a b : Int) (hb : 0 < b) : a < (a / b) * b + b := by
  have h := Int.lt_ediv_add_one_mul_self a hb
  rw [Int.add_mul] at h
  omega
theorem div_is (a b q : Int) (hb : 0 < b) (h1 : q * b ≤ a) (h2 : a < q * b + b) : a / b = q := by
  have h3 := Int.le_ediv_of_mul_le hb h1
  have h4 : a / b < q + 1 := Int.ediv_lt_of_lt_mul hb (by rw [Int.add_mul]; omega)
  omega

/-! ### ct -/
/-- The bytes of the text of a minute. -/
def CL (m : Nat) : List UInt8 := [UInt8.ofNat (48 + m / 600), UInt8.ofNat (48 + m / 60 % 10), 58, UInt8.ofNat (48 + m % 60 / 10), UInt8.ofNat (48 + m % 10)]
/-- The text of a minute. -/
def CT (m : Nat) : ByteArray := ⟨(CL m).toArray⟩
/-- The text of a number. -/
def CX (a : Int) : ByteArray := if 0 ≤ a ∧ a ≤ 1439 then CT a.toNat else ⟨#[]⟩
/-- What five bytes spell. -/
def CD : List UInt8 → Nat
  | [a, b, _, c, d] => 600 * (a.toNat - 48) + 60 * (b.toNat - 48) + 10 * (c.toNat - 48) + (d.toNat - 48)
  | _ => 0
set_option maxRecDepth 100000 in
theorem all_cd : ∀ m : Fin 1440, CD (CL m.val) = m.val := by decide +kernel
theorem cl_inj (m n : Nat) (hm : m < 1440) (hn : n < 1440) (h : CL m = CL n) : m = n := by
  have e1 : CD (CL m) = m := all_cd ⟨m, hm⟩
  have e2 : CD (CL n) = n := all_cd ⟨n, hn⟩
  rw [← e1, ← e2, h]
theorem ct_list (m : Nat) : (CT m).toList = CL m := by
  rw [ByteArray.toList_eq]
  rfl
theorem nil_list : (⟨#[]⟩ : ByteArray).toList = [] := by
  rw [ByteArray.toList_eq]
theorem list_ext (x y : ByteArray) (h : x.toList = y.toList) : x = y := by
  rw [ByteArray.toList_eq, ByteArray.toList_eq] at h
  exact ByteArray.ext (Array.ext' h)
def isT (a : Option ByteArray) (l : List UInt8) : Bool := match a with | some x => x.data.toList == l | _ => false
theorem isT_of (a : Option ByteArray) (l : List UInt8) (h : isT a l = true) : a = some ⟨l.toArray⟩ := by
  cases a with
  | none => simp [isT] at h
  | some x =>
    simp only [isT, beq_iff_eq] at h
    subst h
    rfl

/-! ### ict -/
set_option maxRecDepth 100000 in
theorem all_ict : ∀ m : Fin 1440, isT (impl_ClockText.f 1 (m.val : Int)) (CL m.val) = true := by decide +kernel
theorem i_ct (a : Int) (k : Nat) (hk : 1 ≤ k) : impl_ClockText.f k a = some (CX a) := by
  unfold CX
  by_cases h : 0 ≤ a ∧ a ≤ 1439
  · obtain ⟨m, rfl⟩ := Int.eq_ofNat_of_zero_le h.1
    rw [if_pos h]
    exact at_rounds (fun k => impl_ClockText.mono _ k) hk (isT_of _ _ (all_ict ⟨m, by omega⟩))
  · unfold impl_ClockText.f impl_isMinute.f
    rw [if_neg h, i_in, decide_eq_false h]
    simp

/-! ### icp -/
theorem cp_hit (m : Nat) (hm : m < 1440) (x : ByteArray) (hx : x.toList = CL m) (d : Nat) : ∀ (k j : Nat), j + d = m → d + 1 < k → impl_ClockParse.l0 k x (j : Int) = some ((m : Int), true) := by
  induction d with
  | zero =>
    intro k j hj hk
    obtain ⟨k, rfl⟩ : ∃ r, k = r + 1 := ⟨k - 1, by omega⟩
    obtain rfl : j = m := by omega
    simp only [impl_ClockParse.l0]
    rw [if_pos (by omega), i_ct _ k (by omega), Option.bind_some, if_pos]
    rw [hx, CX, if_pos (by omega), Int.toNat_natCast, ct_list]
  | succ d ih =>
    intro k j hj hk
    obtain ⟨k, rfl⟩ : ∃ r, k = r + 1 := ⟨k - 1, by omega⟩
    have e : wrap64 ((j : Int) + 1) = ((j + 1 : Nat) : Int) := by rw [w_ _ (by omega) (by omega)]; omega
    simp only [impl_ClockParse.l0]
    rw [if_pos (by omega), i_ct _ k (by omega), Option.bind_some, if_neg, e]
    · exact ih k (j + 1) (by omega) (by omega)
    · rw [hx, CX, if_pos (by omega), Int.toNat_natCast, ct_list]
      intro h
      have := cl_inj j m (by omega) hm h
      omega
theorem cp_miss (x : ByteArray) (hx : ∀ m : Nat, m < 1440 → x.toList ≠ CL m) (d : Nat) : ∀ (k j : Nat), j + d = 1440 → d + 1 < k → impl_ClockParse.l0 k x (j : Int) = some (0, false) := by
  induction d with
  | zero =>
    intro k j hj hk
    obtain ⟨k, rfl⟩ : ∃ r, k = r + 1 := ⟨k - 1, by omega⟩
    simp only [impl_ClockParse.l0]
    rw [if_neg (by omega)]
  | succ d ih =>
    intro k j hj hk
    obtain ⟨k, rfl⟩ : ∃ r, k = r + 1 := ⟨k - 1, by omega⟩
    have e : wrap64 ((j : Int) + 1) = ((j + 1 : Nat) : Int) := by rw [w_ _ (by omega) (by omega)]; omega
    simp only [impl_ClockParse.l0]
    rw [if_pos (by omega), i_ct _ k (by omega), Option.bind_some, if_neg, e]
    · exact ih k (j + 1) (by omega) (by omega)
    · rw [CX, if_pos (by omega), Int.toNat_natCast, ct_list]
      exact fun h => hx j (by omega) h.symm
theorem i_cp_hit (m : Nat) (hm : m < 1440) (x : ByteArray) (hx : x.toList = CL m) (k : Nat) (hk : 1500 ≤ k) : impl_ClockParse.f k x = some ((m : Int), true) :=
  cp_hit m hm x hx m k 0 (by omega) (by omega)
theorem i_cp_miss (x : ByteArray) (hx : ∀ m : Nat, m < 1440 → x.toList ≠ CL m) (k : Nat) (hk : 1500 ≤ k) : impl_ClockParse.f k x = some (0, false) :=
  cp_miss x hx 1440 k 0 (by omega) (by omega)

/-! ### kct -/
set_option maxRecDepth 100000 in
theorem all_kct : ∀ m : Fin 1440, isT (spec_ClockText.f 6 (m.val : Int)) (CL m.val) = true := by decide +kernel
theorem k_ct (a : Int) (k : Nat) (hk : 6 ≤ k) : spec_ClockText.f k a = some (CX a) := by
  unfold CX
  by_cases h : 0 ≤ a ∧ a ≤ 1439
  · obtain ⟨m, rfl⟩ := Int.eq_ofNat_of_zero_le h.1
    rw [if_pos h]
    exact at_rounds (fun k => spec_ClockText.mono _ k) hk (isT_of _ _ (all_kct ⟨m, by omega⟩))
  · unfold spec_ClockText.f
    rw [if_neg h, k_in, decide_eq_false h]
    simp

/-! ### kcp -/
def isP (a : Option (Int × Bool)) (m : Nat) : Bool := a == some ((m : Int), true)
set_option maxRecDepth 100000 in
theorem all_kcp : ∀ m : Fin 1440, isP (spec_ClockParse.f 14 (CT m.val)) m.val = true := by decide +kernel
theorem k_cp_hit (m : Nat) (hm : m < 1440) (x : ByteArray) (hx : x.toList = CL m) (k : Nat) (hk : 14 ≤ k) : spec_ClockParse.f k x = some ((m : Int), true) := by
  obtain rfl : x = CT m := list_ext _ _ (by rw [hx, ct_list])
  have h := all_kcp ⟨m, hm⟩
  unfold isP at h
  exact at_rounds (fun k => spec_ClockParse.mono _ k) hk (eq_of_beq h)
theorem kcp_miss_loop (x : ByteArray) (h5 : (x.size : Int) = 5) (hx : ∀ m : Nat, m < 1440 → x.toList ≠ CL m) (d : Nat) : ∀ (k j : Nat), j + d = 5 → d + 7 < k → spec_ClockParse.l0 k x (j : Int) = some (0, false) := by
  induction d with
  | zero =>
    intro k j hj hk
    obtain ⟨k, rfl⟩ : ∃ r, k = r + 1 := ⟨k - 1, by omega⟩
    simp only [spec_ClockParse.l0]
    rw [if_neg (by omega), if_pos (by omega), if_pos (by omega), if_pos (by omega), if_pos (by omega)]
    have e0 : 0 ≤ (bt x 0 - 48) % 256 := Int.emod_nonneg _ (by omega)
    have e1 : 0 ≤ (bt x 1 - 48) % 256 := Int.emod_nonneg _ (by omega)
    have e3 : 0 ≤ (bt x 3 - 48) % 256 := Int.emod_nonneg _ (by omega)
    have e4 : 0 ≤ (bt x 4 - 48) % 256 := Int.emod_nonneg _ (by omega)
    have hn : 0 ≤ 600 * ((bt x 0 - 48) % 256) + 60 * ((bt x 1 - 48) % 256) + 10 * ((bt x 3 - 48) % 256) + (bt x 4 - 48) % 256 := by omega
    generalize 600 * ((bt x 0 - 48) % 256) + 60 * ((bt x 1 - 48) % 256) + 10 * ((bt x 3 - 48) % 256) + (bt x 4 - 48) % 256 = n at *
    rw [k_ct n k (by omega), Option.bind_some, if_neg]
    unfold CX
    by_cases c : 0 ≤ n ∧ n ≤ 1439
    · rw [if_pos c, ct_list]
      exact fun h => hx n.toNat (by omega) h.symm
    · rw [if_neg c, nil_list]
      intro h
      have hl : x.toList.length = x.size := by rw [ByteArray.toList_eq]; exact Array.length_toList
      rw [← h] at hl
      simp at hl
      omega
  | succ d ih =>
    intro k j hj hk
    obtain ⟨k, rfl⟩ : ∃ r, k = r + 1 := ⟨k - 1, by omega⟩
    have e : wrap64 ((j : Int) + 1) = ((j + 1 : Nat) : Int) := by rw [w_ _ (by omega) (by omega)]; omega
    have r := ih k (j + 1) (by omega) (by omega)
    simp only [spec_ClockParse.l0]
    rw [if_pos (by omega), e, r]
    by_cases c2 : (j : Int) = 2
    · rw [if_pos c2]
    · rw [if_neg c2, if_pos (by omega), if_pos (by omega)]
      repeat' split
      all_goals rfl
theorem k_cp_miss (x : ByteArray) (hx : ∀ m : Nat, m < 1440 → x.toList ≠ CL m) (k : Nat) (hk : 14 ≤ k) : spec_ClockParse.f k x = some (0, false) := by
  unfold spec_ClockParse.f
  by_cases c : (x.size : Int) = 5
  · rw [if_pos c]
    exact kcp_miss_loop x c hx 5 k 0 (by omega) (by omega)
  · rw [if_neg c]
theorem cp_either (x : ByteArray) : (∃ m : Nat, m < 1440 ∧ x.toList = CL m) ∨ ∀ m : Nat, m < 1440 → x.toList ≠ CL m := by
  by_cases h : ∃ m : Nat, m < 1440 ∧ x.toList = CL m
  · exact .inl h
  · exact .inr fun m hm e => h ⟨m, hm, e⟩

theorem FnExactClockParse (a : ByteArray) (_ : a.size ≤ 140737488351232) : ∃ k, laws_FnExactClockParse.f k a = some true := by
  refine ⟨1500, ?_⟩
  unfold laws_FnExactClockParse.f
  by_cases c : (a.size : Int) > 1048576
  · rw [if_pos c]
  · rw [if_neg c]
    rcases cp_either a with ⟨m, hm, e⟩ | h
    · rw [k_cp_hit m hm a e 1500 (by omega), i_cp_hit m hm a e 1500 (by omega)]
      simp
    · rw [k_cp_miss a h 1500 (by omega), i_cp_miss a h 1500 (by omega)]
      simp

end Go.Proofs.YtdedhnlgjegbhaaDoor.Pure
