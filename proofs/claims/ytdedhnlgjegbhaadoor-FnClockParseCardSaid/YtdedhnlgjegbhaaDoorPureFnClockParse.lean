/- FnClockParse answers true at every list of bytes. -/
import Derived.Test.YtdedhnlgjegbhaaDoorQFnClockParse
import Derived.Lib.Strings
import Derived.Laws.BitsLemmas
namespace Go.Proofs.YtdedhnlgjegbhaaDoor.Pure
open Go.RowKit Go.Proofs.YtdedhnlgjegbhaaDoor.PFnClockParse Go.Proofs.YtdedhnlgjegbhaaDoorW.PrintWords Go.Proofs.YtdedhnlgjegbhaaDoorW.PrintLast
set_option linter.unusedSimpArgs false
set_option linter.unusedVariables false

/-! ### core -/
theorem k_in (a b c : Int) : spec_l6In.f a b c = some (decide (b ≤ a ∧ a ≤ c)) := by
  unfold spec_l6In.f
  by_cases h : b ≤ a <;> simp [h]
theorem i_in (a b c : Int) : impl_within.f a b c = some (decide (b ≤ a ∧ a ≤ c)) := by
  unfold impl_within.f
  by_cases h : b ≤ a <;> simp [h]
theorem w_ (n : Int) (h : -9223372036854775808 ≤ n) (h' : n ≤ 9223372036854775807) : wrap64 n = n := by unfold wrap64; omega
theorem div_low (a b : Int) (hb : 0 < b) : (a / b) * b ≤ a := Int.ediv_mul_le a (by omega)
theorem div_high (a b : Int) (hb : 0 < b) : a < (a / b) * b + b := by
  have h := Int.lt_ediv_add_one_mul_self a hb
  rw [Int.add_mul] at h
  omega
theorem div_is (a b q : Int) (hb : 0 < b) (h1 : q * b ≤ a) (h2 : a < q * b + b) : a / b = q := by
  have h3 := Int.le_ediv_of_mul_le hb h1
  have h4 : a / b < q + 1 := Int.ediv_lt_of_lt_mul hb (by rw [Int.add_mul]; omega)
  omega

/-! ### ct -/
/-- The bytes of the text of a minute. -/
def CL (m : Nat) : List UInt8 := [UInt8.ofNat (48 + m / 600), UInt8.ofNat (48 + m / 60 % 10), 58, UInt8.ofNat (48 + m % 60 / 10), UInt8.ofNat (48 + m % 10)]
/-- The text of a minute. -/
def CT (m : Nat) : ByteArray := ⟨(CL m).toArray⟩
/-- The text of a number. -/
def CX (a : Int) : ByteArray := if 0 ≤ a ∧ a ≤ 1439 then CT a.toNat else ⟨#[]⟩
/-- What five bytes spell. -/
def CD : List UInt8 → Nat
  | [a, b, _, c, d] => 600 * (a.toNat - 48) + 60 * (b.toNat - 48) + 10 * (c.toNat - 48) + (d.toNat - 48)
  | _ => 0
set_option maxRecDepth 100000 in
theorem all_cd : ∀ m : Fin 1440, CD (CL m.val) = m.val := by decide +kernel
theorem cl_inj (m n : Nat) (hm : m < 1440) (hn : n < 1440) (h : CL m = CL n) : m = n := by
  have e1 : CD (CL m) = m := all_cd ⟨m, hm⟩
  have e2 : CD (CL n) = n := all_cd ⟨n, hn⟩
  rw [← e1, ← e2, h]
theorem ct_list (m : Nat) : (CT m).toList = CL m := by
  rw [ByteArray.toList_eq]
  rfl
theorem nil_list : (⟨#[]⟩ : ByteArray).toList = [] := by
  rw [ByteArray.toList_eq]
theorem list_ext (x y : ByteArray) (h : x.toList = y.toList) : x = y := by
  rw [ByteArray.toList_eq, ByteArray.toList_eq] at h
  exact ByteArray.ext (Array.ext' h)
def isT (a : Option ByteArray) (l : List UInt8) : Bool := match a with | some x => x.data.toList == l | _ => false
theorem isT_of (a : Option ByteArray) (l : List UInt8) (h : isT a l = true) : a = some ⟨l.toArray⟩ := by
  cases a with
  | none => simp [isT] at h
  | some x =>
    simp only [isT, beq_iff_eq] at h
    subst h
    rfl

/-! ### ict -/
set_option maxRecDepth 100000 in
theorem all_ict : ∀ m : Fin 1440, isT (impl_ClockText.f 1 (m.val : Int)) (CL m.val) = true := by decide +kernel
theorem i_ct (a : Int) (k : Nat) (hk : 1 ≤ k) : impl_ClockText.f k a = some (CX a) := by
  unfold CX
  by_cases h : 0 ≤ a ∧ a ≤ 1439
  · obtain ⟨m, rfl⟩ := Int.eq_ofNat_of_zero_le h.1
    rw [if_pos h]
    exact at_rounds (fun k => impl_ClockText.mono _ k) hk (isT_of _ _ (all_ict ⟨m, by omega⟩))
  · unfold impl_ClockText.f impl_isMinute.f
    rw [if_neg h, i_in, decide_eq_false h]
    simp

/-! ### icp -/
theorem cp_hit (m : Nat) (hm : m < 1440) (x : ByteArray) (hx : x.toList = CL m) (d : Nat) : ∀ (k j : Nat), j + d = m → d + 1 < k → impl_ClockParse.l0 k x (j : Int) = some ((m : Int), true) := by
  induction d with
  | zero =>
    intro k j hj hk
    obtain ⟨k, rfl⟩ : ∃ r, k = r + 1 := ⟨k - 1, by omega⟩
    obtain rfl : j = m := by omega
    simp only [impl_ClockParse.l0]
    rw [if_pos (by omega), i_ct _ k (by omega), Option.bind_some, if_pos]
    rw [hx, CX, if_pos (by omega), Int.toNat_natCast, ct_list]
  | succ d ih =>
    intro k j hj hk
    obtain ⟨k, rfl⟩ : ∃ r, k = r + 1 := ⟨k - 1, by omega⟩
    have e : wrap64 ((j : Int) + 1) = ((j + 1 : Nat) : Int) := by rw [w_ _ (by omega) (by omega)]; omega
    simp only [impl_ClockParse.l0]
    rw [if_pos (by omega), i_ct _ k (by omega), Option.bind_some, if_neg, e]
    · exact ih k (j + 1) (by omega) (by omega)
    · rw [hx, CX, if_pos (by omega), Int.toNat_natCast, ct_list]
      intro h
      have := cl_inj j m (by omega) hm h
      omega
theorem cp_miss (x : ByteArray) (hx : ∀ m : Nat, m < 1440 → x.toList ≠ CL m) (d : Nat) : ∀ (k j : Nat), j + d = 1440 → d + 1 < k → impl_ClockParse.l0 k x (j : Int) = some (0, false) := by
  induction d with
  | zero =>
    intro k j hj hk
    obtain ⟨k, rfl⟩ : ∃ r, k = r + 1 := ⟨k - 1, by omega⟩
    simp only [impl_ClockParse.l0]
    rw [if_neg (by omega)]
  | succ d ih =>
    intro k j hj hk
    obtain ⟨k, rfl⟩ : ∃ r, k = r + 1 := ⟨k - 1, by omega⟩
    have e : wrap64 ((j : Int) + 1) = ((j + 1 : Nat) : Int) := by rw [w_ _ (by omega) (by omega)]; omega
    simp only [impl_ClockParse.l0]
    rw [if_pos (by omega), i_ct _ k (by omega), Option.bind_some, if_neg, e]
    · exact ih k (j + 1) (by omega) (by omega)
    · rw [CX, if_pos (by omega), Int.toNat_natCast, ct_list]
      exact fun h => hx j (by omega) h.symm
theorem i_cp_hit (m : Nat) (hm : m < 1440) (x : ByteArray) (hx : x.toList = CL m) (k : Nat) (hk : 1500 ≤ k) : impl_ClockParse.f k x = some ((m : Int), true) :=
  cp_hit m hm x hx m k 0 (by omega) (by omega)
theorem i_cp_miss (x : ByteArray) (hx : ∀ m : Nat, m < 1440 → x.toList ≠ CL m) (k : Nat) (hk : 1500 ≤ k) : impl_ClockParse.f k x = some (0, false) :=
  cp_miss x hx 1440 k 0 (by omega) (by omega)

/-! ### kct -/
set_option maxRecDepth 100000 in
theorem all_kct : ∀ m : Fin 1440, isT (spec_ClockText.f 6 (m.val : Int)) (CL m.val) = true := by decide +kernel
theorem k_ct (a : Int) (k : Nat) (hk : 6 ≤ k) : spec_ClockText.f k a = some (CX a) := by
  unfold CX
  by_cases h : 0 ≤ a ∧ a ≤ 1439
  · obtain ⟨m, rfl⟩ := Int.eq_ofNat_of_zero_le h.1
    rw [if_pos h]
    exact at_rounds (fun k => spec_ClockText.mono _ k) hk (isT_of _ _ (all_kct ⟨m, by omega⟩))
  · unfold spec_ClockText.f
    rw [if_neg h, k_in, decide_eq_false h]
    simp

/-! ### kcp -/
def isP (a : Option (Int × Bool)) (m : Nat) : Bool := a == some ((m : Int), true)
set_option maxRecDepth 100000 in
theorem all_kcp : ∀ m : Fin 1440, isP (spec_ClockParse.f 14 (CT m.val)) m.val = true := by decide +kernel
theorem k_cp_hit (m : Nat) (hm : m < 1440) (x : ByteArray) (hx : x.toList = CL m) (k : Nat) (hk : 14 ≤ k) : spec_ClockParse.f k x = some ((m : Int), true) := by
  obtain rfl : x = CT m := list_ext _ _ (by rw [hx, ct_list])
  have h := all_kcp ⟨m, hm⟩
  unfold isP at h
  exact at_rounds (fun k => spec_ClockParse.mono _ k) hk (eq_of_beq h)
theorem kcp_miss_loop (x : ByteArray) (h5 : (x.size : Int) = 5) (hx : ∀ m : Nat, m < 1440 → x.toList ≠ CL m) (d : Nat) : ∀ (k j : Nat), j + d = 5 → d + 7 < k → spec_ClockParse.l0 k x (j : Int) = some (0, false) := by
  induction d with
  | zero =>
    intro k j hj hk
    obtain ⟨k, rfl⟩ : ∃ r, k = r + 1 := ⟨k - 1, by omega⟩
    simp only [spec_ClockParse.l0]
    rw [if_neg (by omega), if_pos (by omega), if_pos (by omega), if_pos (by omega), if_pos (by omega)]
    have e0 : 0 ≤ (bt x 0 - 48) % 256 := Int.emod_nonneg _ (by omega)
    have e1 : 0 ≤ (bt x 1 - 48) % 256 := Int.emod_nonneg _ (by omega)
    have e3 : 0 ≤ (bt x 3 - 48) % 256 := Int.emod_nonneg _ (by omega)
    have e4 : 0 ≤ (bt x 4 - 48) % 256 := Int.emod_nonneg _ (by omega)
    have hn : 0 ≤ 600 * ((bt x 0 - 48) % 256) + 60 * ((bt x 1 - 48) % 256) + 10 * ((bt x 3 - 48) % 256) + (bt x 4 - 48) % 256 := by omega
    generalize 600 * ((bt x 0 - 48) % 256) + 60 * ((bt x 1 - 48) % 256) + 10 * ((bt x 3 - 48) % 256) + (bt x 4 - 48) % 256 = n at *
    rw [k_ct n k (by omega), Option.bind_some, if_neg]
    unfold CX
    by_cases c : 0 ≤ n ∧ n ≤ 1439
    · rw [if_pos c, ct_list]
      exact fun h => hx n.toNat (by omega) h.symm
    · rw [if_neg c, nil_list]
      intro h
      have hl : x.toList.length = x.size := by rw [ByteArray.toList_eq]; exact Array.length_toList
      rw [← h] at hl
      simp at hl
      omega
  | succ d ih =>
    intro k j hj hk
    obtain ⟨k, rfl⟩ : ∃ r, k = r + 1 := ⟨k - 1, by omega⟩
    have e : wrap64 ((j : Int) + 1) = ((j + 1 : Nat) : Int) := by rw [w_ _ (by omega) (by omega)]; omega
    have r := ih k (j + 1) (by omega) (by omega)
    simp only [spec_ClockParse.l0]
    rw [if_pos (by omega), e, r]
    by_cases c2 : (j : Int) = 2
    · rw [if_pos c2]
    · rw [if_neg c2, if_pos (by omega), if_pos (by omega)]
      repeat' split
      all_goals rfl
theorem k_cp_miss (x : ByteArray) (hx : ∀ m : Nat, m < 1440 → x.toList ≠ CL m) (k : Nat) (hk : 14 ≤ k) : spec_ClockParse.f k x = some (0, false) := by
  unfold spec_ClockParse.f
  by_cases c : (x.size : Int) = 5
  · rw [if_pos c]
    exact kcp_miss_loop x c hx 5 k 0 (by omega) (by omega)
  · rw [if_neg c]
theorem cp_either (x : ByteArray) : (∃ m : Nat, m < 1440 ∧ x.toList = CL m) ∨ ∀ m : Nat, m < 1440 → x.toList ≠ CL m := by
  by_cases h : ∃ m : Nat, m < 1440 ∧ x.toList = CL m
  · exact .inl h
  · exact .inr fun m hm e => h ⟨m, hm, e⟩

/-! ### pick -/
/-- What a reader of draws holds: at most 2000 bytes. -/
def Ok (s : List Int) : Prop := s.length ≤ 2000 ∧ ∀ x ∈ s, 0 ≤ x ∧ x ≤ 255
theorem rd_ok {s : List Int} (h : Ok s) (i : Int) : 0 ≤ rd s i ∧ rd s i ≤ 255 := by
  unfold rd
  rw [List.getD_eq_getElem?_getD]
  cases e : s[i.toNat]? with
  | none => simp
  | some x => simpa using h.2 x (List.mem_of_getElem? e)
theorem xor_nonneg (x y : Int) (hx : 0 ≤ x) (hx' : x < 9223372036854775808) (hy : 0 ≤ y) (hy' : y < 9223372036854775808) : 0 ≤ Go.bits .xor .i64 x y := by
  obtain ⟨a, rfl⟩ := Int.eq_ofNat_of_zero_le hx
  obtain ⟨b, rfl⟩ := Int.eq_ofNat_of_zero_le hy
  have ha : a < 2 ^ 63 := by omega
  have hb : b < 2 ^ 63 := by omega
  have hc := Nat.xor_lt_two_pow ha hb
  have e1 : a % 2 ^ IntKind.i64.bits = a := Nat.mod_eq_of_lt (Nat.lt_of_lt_of_le ha (Nat.pow_le_pow_right (by decide) (by decide)))
  have e2 : b % 2 ^ IntKind.i64.bits = b := Nat.mod_eq_of_lt (Nat.lt_of_lt_of_le hb (Nat.pow_le_pow_right (by decide) (by decide)))
  simp only [Go.bits, BitVec.ofInt_natCast, BitVec.toNat_xor, BitVec.toNat_ofNat, e1, e2]
  rw [Go.IntKind.wrap_i64]
  omega
theorem pick_ok (k : Nat) (s : List Int) (p n : Int) (hk : 1 ≤ k) (hs : Ok s) (hp : 0 ≤ p) (hp' : p ≤ 1000000) :
    ∃ r, spec_l6Rd_pick.f k s p n = some (r, p + 1) ∧ 0 ≤ r ∧ (1 ≤ n → r < n) ∧ (n < 1 → r = 0) := by
  obtain ⟨k, rfl⟩ : ∃ m, k = m + 1 := ⟨k - 1, by omega⟩
  unfold spec_l6Rd_pick.f
  have e : wrap64 (p + 1) = p + 1 := w_ _ (by omega) (by omega)
  have e' : wrap64 (p + 1 - 1) = p := by rw [w_ _ (by omega) (by omega)]; omega
  rw [e]
  by_cases hn : n < 1
  · rw [if_pos hn]
    refine ⟨0, ?_, by omega, by omega, by omega⟩
    simp [spec_l6Rd_pick.j0]
  · rw [if_neg hn]
    by_cases hl : (s.length : Int) = 0
    · rw [beq_iff_eq.mpr hl]
      refine ⟨0, ?_, by omega, by omega, by omega⟩
      simp [spec_l6Rd_pick.j0]
    · rw [beq_eq_false_iff_ne.mpr hl]
      have hl' : (s.length : Int) ≤ 2000 := by have := hs.1; omega
      simp only [spec_l6Rd_pick.j0, e']
      rw [if_neg (by simp)]
      by_cases c : p < (s.length : Int)
      · rw [if_pos c, if_pos hp, if_neg (by omega)]
        obtain ⟨r0, r1⟩ := rd_ok hs p
        rw [w_ (rd s p) (by omega) (by omega)]
        exact ⟨_, rfl, Int.tmod_nonneg _ r0, fun _ => Int.tmod_lt_of_pos _ (by omega), by omega⟩
      · have a1 := Int.tmod_nonneg (s.length : Int) hp
        have a2 := Int.tmod_lt_of_pos p (b := (s.length : Int)) (by omega)
        have a3 : wrap64 (wrap64 (p * 7) + 3) = p * 7 + 3 := by rw [w_ (p * 7) (by omega) (by omega), w_ _ (by omega) (by omega)]
        have a4 := Int.tmod_nonneg (s.length : Int) (a := p * 7 + 3) (by omega)
        have a5 := Int.tmod_lt_of_pos (p * 7 + 3) (b := (s.length : Int)) (by omega)
        rw [if_neg c, if_neg hl, if_pos a1, if_pos a2, a3, if_pos a4, if_pos a5, if_neg (by omega)]
        obtain ⟨r0, r1⟩ := rd_ok hs (Int.tmod p (s.length : Int))
        obtain ⟨q0, q1⟩ := rd_ok hs (Int.tmod (p * 7 + 3) (s.length : Int))
        generalize rd s (Int.tmod p (s.length : Int)) = A at *
        generalize rd s (Int.tmod (p * 7 + 3) (s.length : Int)) = B at *
        have d0 : 0 ≤ Int.tdiv p (s.length : Int) := Int.tdiv_nonneg hp (by omega)
        have d1 : Int.tdiv p (s.length : Int) ≤ p := by rw [Int.tdiv_eq_ediv_of_nonneg hp]; exact Int.ediv_le_self _ hp
        generalize Int.tdiv p (s.length : Int) = D at *
        simp (disch := omega) only [w_]
        have x0 : 0 ≤ A * 131 + B * 1117 + p * 29 + D * 53 := by omega
        have x1 : A * 131 + B * 1117 + p * 29 + D * 53 ≤ 100000000 := by omega
        generalize A * 131 + B * 1117 + p * 29 + D * 53 = X at *
        have y0 : 0 ≤ Int.tdiv X 64 := Int.tdiv_nonneg x0 (by omega)
        have y1 : Int.tdiv X 64 ≤ X := by rw [Int.tdiv_eq_ediv_of_nonneg x0]; exact Int.ediv_le_self _ x0
        simp (disch := omega) only [w_]
        exact ⟨_, rfl, Int.tmod_nonneg _ (xor_nonneg _ _ (by omega) (by omega) (by omega) (by omega)), fun _ => Int.tmod_lt_of_pos _ (by omega), by omega⟩
theorem open_ok (l : List Int) (h : ∀ x ∈ l, (Lit.int .u8 x).wf = true) : ∃ s, spec_l6Open.f l = some (s, 0) ∧ Ok s := by
  have b : ∀ x ∈ l, 0 ≤ x ∧ x ≤ 255 := fun x hx => by
    have := h x hx
    simp [Lit.wf, IntKind.min, IntKind.max, IntKind.bits, IntKind.signed] at this
    omega
  unfold spec_l6Open.f
  by_cases c : (l.length : Int) > 2000
  · rw [if_pos c, if_pos (by omega)]
    exact ⟨_, rfl, by rw [List.length_take]; omega, fun x hx => b x (List.mem_of_mem_take hx)⟩
  · rw [if_neg c]
    exact ⟨_, rfl, by omega, b⟩

/-! ### dminute -/
theorem minute_ok (k : Nat) (s : List Int) (p : Int) (hk : 1 ≤ k) (hs : Ok s) (hp : 0 ≤ p) (hp' : p ≤ 9000) : ∃ m q, spec_l91Minute.f k s p = some (m, q) ∧ p ≤ q ∧ q ≤ p + 3 := by
  unfold spec_l91Minute.f
  obtain ⟨r1, e1, _⟩ := pick_ok k s p 20 hk hs hp (by omega)
  obtain ⟨r2, e2, a2, b2, _⟩ := pick_ok k s (p + 1) 4 hk hs (by omega) (by omega)
  obtain ⟨r3, e3, _⟩ := pick_ok k s (p + 1) 240 hk hs (by omega) (by omega)
  obtain ⟨r4, e4, _⟩ := pick_ok k s (p + 1 + 1) 6 hk hs (by omega) (by omega)
  have b2' := b2 (by omega)
  rw [e1]; simp only [Option.bind_some]
  rw [e2]; simp only [Option.bind_some, List.length_cons, List.length_nil]
  rw [e3]; simp only [Option.bind_some]
  rw [e4]; simp only [Option.bind_some]
  by_cases c : r1 = 0
  · rw [if_pos c, if_pos a2, if_pos (by omega)]
    exact ⟨_, _, rfl, by omega, by omega⟩
  · rw [if_neg c]
    exact ⟨_, _, rfl, by omega, by omega⟩

/-! ### twist -/
theorem of_ok (k : Nat) (s : List Int) (p : Int) (t : List ByteArray) (ht : 1 ≤ t.length) (hz : ∀ u ∈ t, u.size ≤ 100) (ht' : t.length ≤ 1000) (hk : 1 ≤ k) (hs : Ok s) (hp : 0 ≤ p) (hp' : p ≤ 10000) : ∃ u, spec_l6Rd_of.f k s p t = some (u, p + 1) ∧ u.size ≤ 100 := by
  unfold spec_l6Rd_of.f
  obtain ⟨r, e, a, b, c⟩ := pick_ok k s p (t.length : Int) hk hs hp (by omega)
  have hr := b (by omega)
  rw [e]; simp only [Option.bind_some]
  rw [if_pos a, if_pos hr]
  refine ⟨_, rfl, ?_⟩
  unfold rdOf
  rw [List.getD_eq_getElem?_getD]
  cases g : t[r.toNat]? with
  | none => simp
  | some u => simpa using hz u (List.mem_of_getElem? g)
theorem twist_ok (k : Nat) (s : List Int) (p : Int) (x : ByteArray) (t : List ByteArray) (hx : x.size ≤ 1000) (ht : 1 ≤ t.length) (hz : ∀ u ∈ t, u.size ≤ 100) (ht' : t.length ≤ 1000) (hk : 2 ≤ k) (hs : Ok s) (hp : 0 ≤ p) (hp' : p ≤ 9000) :
    ∃ u q, spec_l91Twist.f k s p x t = some (u, q) ∧ u.size ≤ 2100 := by
  obtain ⟨k, rfl⟩ : ∃ r, k = r + 1 := ⟨k - 1, by omega⟩
  unfold spec_l91Twist.f
  by_cases h : (x.size : Int) > 0
  · obtain ⟨r1, e1, a1, b1, c1⟩ := pick_ok (k + 1) s p 3 (by omega) hs hp (by omega)
    rw [if_pos h, e1]; simp only [Option.bind_some, spec_l91Twist.j0]
    by_cases g : (r1 == 0) = true
    · rw [if_pos g]
      obtain ⟨r2, e2, a2, b2, c2⟩ := pick_ok k s (p + 1) (x.size : Int) (by omega) hs (by omega) (by omega)
      have hr2 := b2 (by omega)
      obtain ⟨u, e3, z3⟩ := of_ok k s (p + 1 + 1) t ht hz ht' (by omega) hs (by omega) (by omega)
      obtain ⟨r4, e4, a4, b4, c4⟩ := pick_ok k s (p + 1 + 1 + 1) 2 (by omega) hs (by omega) (by omega)
      have hr4 := b4 (by omega)
      have w : wrap64 (r2 + r4) = r2 + r4 := w_ _ (by omega) (by omega)
      have z1 : (x.extract 0 r2.toNat).size ≤ 1000 := by rw [ByteArray.size_extract]; omega
      have z2 : (x.extract (r2 + r4).toNat x.size).size ≤ 1000 := by rw [ByteArray.size_extract]; omega
      rw [e2]; simp only [Option.bind_some]
      rw [if_pos a2, if_pos (by omega), e3]; simp only [Option.bind_some]
      rw [if_pos (by omega), e4]; simp only [Option.bind_some, w]
      rw [if_pos (by omega), if_pos (by omega), if_pos (by rw [ByteArray.size_append]; omega)]
      exact ⟨_, _, rfl, by rw [ByteArray.size_append, ByteArray.size_append]; omega⟩
    · rw [if_neg g]
      exact ⟨_, _, rfl, by omega⟩
  · rw [if_neg h]
    simp only [spec_l91Twist.j0]
    rw [if_neg (by simp)]
    exact ⟨_, _, rfl, by omega⟩

theorem dcp_ok (k : Nat) (l : List Int) (hk : 20 ≤ k) (hl : ∀ x ∈ l, (Lit.int .u8 x).wf = true) : ∃ x, spec_DrawClockParse.f k l = some x := by
  unfold spec_DrawClockParse.f
  obtain ⟨s, es, hs⟩ := open_ok l hl
  obtain ⟨m, q, h, q0, q1⟩ := minute_ok k s 0 (by omega) hs (by omega) (by omega)
  have hz : (CX m).size ≤ 1000 := by
    unfold CX
    split
    · exact show (5 : Nat) ≤ 1000 by omega
    · exact show (0 : Nat) ≤ 1000 by omega
  obtain ⟨u, p, e, _⟩ := twist_ok k s q (CX m) [(⟨#[]⟩ : ByteArray), (⟨#[48]⟩ : ByteArray), (⟨#[54]⟩ : ByteArray), (⟨#[58]⟩ : ByteArray), (⟨#[57]⟩ : ByteArray)] hz (by simp) (by intro u hu; simp at hu; rcases hu with rfl | rfl | rfl | rfl | rfl <;> decide) (by simp) (by omega) hs (by omega) (by omega)
  rw [es]; simp only [Option.bind_some]
  rw [h]; simp only [Option.bind_some]
  rw [k_ct _ _ (by omega)]; simp only [Option.bind_some]
  rw [e]
  exact ⟨_, rfl⟩
theorem FnClockParse (l : List Int) (_ : l.length ≤ maxLen) (hl : ∀ x ∈ l, (Lit.int .u8 x).wf = true) : ∃ k, laws_FnClockParse.f k l = some true := by
  refine ⟨1500, ?_⟩
  unfold laws_FnClockParse.f
  by_cases c : (l.length : Int) > 1048576
  · rw [if_pos c]
  · obtain ⟨x, e⟩ := dcp_ok 1500 l (by omega) hl
    rw [if_neg c, e, Option.bind_some]
    rcases cp_either x with ⟨m, hm, e⟩ | h
    · rw [k_cp_hit m hm x e 1500 (by omega), i_cp_hit m hm x e 1500 (by omega)]
      simp only [Option.bind_some]
      rw [if_neg (by simp), if_pos trivial, if_pos trivial, i_ct _ _ (by omega), Option.bind_some, if_pos, if_pos (by omega)]
      · rw [decide_eq_true (by omega)]
      · unfold CX
        rw [if_pos (by omega), Int.toNat_natCast, ct_list, e]
    · rw [k_cp_miss x h 1500 (by omega), i_cp_miss x h 1500 (by omega)]
      simp

end Go.Proofs.YtdedhnlgjegbhaaDoor.Pure
