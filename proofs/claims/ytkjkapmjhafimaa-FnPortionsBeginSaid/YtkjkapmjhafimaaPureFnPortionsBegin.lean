/- FnPortionsBegin answers true at every two lists of bytes. -/
import Derived.Test.YtkjkapmjhafimaaPFnPortionsBeginx3
import Derived.Laws.BitsLemmas
import Derived.Test.YtkjkapmjhafimaaWSized
namespace Go.Proofs.Ytkjkapmjhafimaa.Pure
open Go.RowKit Go.Proofs.Ytkjkapmjhafimaa.PFnPortionsBegin Go.Proofs.YtkjkapmjhafimaaW.PrintWords Go.Proofs.YtkjkapmjhafimaaW.PrintLast
set_option linter.unusedSimpArgs false
set_option linter.unusedVariables false

/-! ### core -/
theorem k_in (a b c : Int) : spec_l6In.f a b c = some (decide (b ≤ a ∧ a ≤ c)) := by
  unfold spec_l6In.f
  by_cases h : b ≤ a <;> simp [h]
theorem i_in (a b c : Int) : impl_within.f a b c = some (decide (b ≤ a ∧ a ≤ c)) := by
  unfold impl_within.f
  by_cases h : b ≤ a <;> simp [h]
theorem w_ (n : Int) (h : -9223372036854775808 ≤ n) (h' : n ≤ 9223372036854775807) : wrap64 n = n := by unfold wrap64; omega
theorem div_low (a b : Int) (hb : 0 < b) : (a / b) * b ≤ a := Int.ediv_mul_le a (by omega)
theorem div_high (a b : Int) (hb : 0 < b) : a < (a / b) * b + b := by
  have h := Int.lt_ediv_add_one_mul_self a hb
  rw [Int.add_mul] at h
  omega
theorem div_is (a b q : Int) (hb : 0 < b) (h1 : q * b ≤ a) (h2 : a < q * b + b) : a / b = q := by
  have h3 := Int.le_ediv_of_mul_le hb h1
  have h4 : a / b < q + 1 := Int.ediv_lt_of_lt_mul hb (by rw [Int.add_mul]; omega)
  omega

/-! ### portions -/
/-- Where the portions before number j end. -/
def PE (n m : Int) (j : Nat) : Int := (j : Int) * n / m
/-- The first c portions. -/
def PT (n m : Int) (c : Nat) : List Int := (List.range c).map fun j => PE n m (j + 1) - PE n m j
theorem pt_succ (n m : Int) (c : Nat) : PT n m (c + 1) = PT n m c ++ [PE n m (c + 1) - PE n m c] := by
  simp [PT, List.range_succ]
theorem pt_length (n m : Int) (c : Nat) : (PT n m c).length = c := by simp [PT]
theorem pe_in (n m : Int) (j : Nat) (hn : 0 ≤ n) (hn' : n ≤ 9999) (hm : 1 ≤ m) (hj : j ≤ 100) : 0 ≤ (j : Int) * n ∧ (j : Int) * n ≤ 999900 ∧ 0 ≤ PE n m j ∧ PE n m j ≤ 999900 := by
  have a : 0 ≤ (j : Int) * n := Int.mul_nonneg (by omega) hn
  have b : (j : Int) * n ≤ 100 * 9999 := Int.mul_le_mul (by omega) hn' hn (by omega)
  have c := Int.ediv_nonneg (a := (j : Int) * n) (b := m) a (by omega)
  have d := Int.ediv_le_self (a := (j : Int) * n) m a
  unfold PE
  omega
theorem pe_val (n m : Int) (j : Nat) (hn : 0 ≤ n) (hn' : n ≤ 9999) (hm : 1 ≤ m) (hj : j ≤ 100) : wrap64 (Int.tdiv (wrap64 ((j : Int) * n)) m) = PE n m j := by
  obtain ⟨a, b, c, d⟩ := pe_in n m j hn hn' hm hj
  rw [w_ ((j : Int) * n) (by omega) (by omega), Int.tdiv_eq_ediv_of_nonneg a]
  exact w_ _ (by unfold PE at c; omega) (by unfold PE at d; omega)
theorem kport_loop (n m : Int) (hn : 0 ≤ n) (hn' : n ≤ 9999) (hm : 1 ≤ m) (hm' : m ≤ 20) : ∀ (d k j : Nat), (j : Int) + d = m → d < k →
    spec_PortionsOf.l0 k n m (PT n m j) (j : Int) = some (PT n m m.toNat)
  | 0, k, j, hj, hk => by
    obtain ⟨k, rfl⟩ : ∃ r, k = r + 1 := ⟨k - 1, by omega⟩
    obtain rfl : j = m.toNat := by omega
    simp only [spec_PortionsOf.l0]
    rw [if_neg (by omega)]
  | d + 1, k, j, hj, hk => by
    obtain ⟨k, rfl⟩ : ∃ r, k = r + 1 := ⟨k - 1, by omega⟩
    obtain ⟨_, _, c, d'⟩ := pe_in n m j hn hn' hm (by omega)
    obtain ⟨_, _, c1, d1⟩ := pe_in n m (j + 1) hn hn' hm (by omega)
    have e : wrap64 ((j : Int) + 1) = ((j + 1 : Nat) : Int) := by rw [w_ _ (by omega) (by omega)]; omega
    simp only [spec_PortionsOf.l0]
    rw [if_pos (by omega), if_neg (by omega), if_pos (by rw [pt_length]; omega), e, pe_val n m (j + 1) hn hn' hm (by omega), pe_val n m j hn hn' hm (by omega), w_ _ (by omega) (by omega), ← pt_succ]
    exact kport_loop n m hn hn' hm hm' d k (j + 1) (by omega) (by omega)
theorem iport_loop (n m : Int) (hn : 0 ≤ n) (hn' : n ≤ 9999) (hm : 1 ≤ m) (hm' : m ≤ 20) : ∀ (d k j : Nat), (j : Int) + d = m → d < k →
    impl_PortionsOf.l0 k n m (PT n m j) ((j + 1 : Nat) : Int) = some (PT n m m.toNat)
  | 0, k, j, hj, hk => by
    obtain ⟨k, rfl⟩ : ∃ r, k = r + 1 := ⟨k - 1, by omega⟩
    obtain rfl : j = m.toNat := by omega
    simp only [impl_PortionsOf.l0]
    rw [if_neg (by omega)]
  | d + 1, k, j, hj, hk => by
    obtain ⟨k, rfl⟩ : ∃ r, k = r + 1 := ⟨k - 1, by omega⟩
    obtain ⟨_, _, c, d'⟩ := pe_in n m j hn hn' hm (by omega)
    obtain ⟨_, _, c1, d1⟩ := pe_in n m (j + 1) hn hn' hm (by omega)
    have e : wrap64 (((j + 1 : Nat) : Int) + 1) = ((j + 1 + 1 : Nat) : Int) := by rw [w_ _ (by omega) (by omega)]; omega
    have e' : wrap64 (((j + 1 : Nat) : Int) - 1) = (j : Int) := by rw [w_ _ (by omega) (by omega)]; omega
    simp only [impl_PortionsOf.l0]
    rw [if_pos (by omega), if_neg (by omega), if_pos (by rw [pt_length]; omega), e, e', pe_val n m (j + 1) hn hn' hm (by omega), pe_val n m j hn hn' hm (by omega), w_ _ (by omega) (by omega), ← pt_succ]
    exact iport_loop n m hn hn' hm hm' d k (j + 1) (by omega) (by omega)
/-- The portions of an amount; none where an argument is invalid. -/
def PO (n m : Int) : List Int := if (0 ≤ n ∧ n ≤ 9999) ∧ (1 ≤ m ∧ m ≤ 20) then PT n m m.toNat else []
theorem pt_zero (n m : Int) : PT n m 0 = [] := by simp [PT]
theorem i_po (k : Nat) (n m : Int) (hk : 40 ≤ k) : impl_PortionsOf.f k n m = some (PO n m) := by
  obtain ⟨k, rfl⟩ : ∃ r, k = r + 1 := ⟨k - 1, by omega⟩
  by_cases h : 0 ≤ n ∧ n ≤ 9999
  · by_cases g : 1 ≤ m ∧ m ≤ 20
    · have e : PO n m = PT n m m.toNat := by unfold PO; rw [if_pos ⟨h, g⟩]
      rw [e]
      unfold impl_PortionsOf.f impl_isAmount.f
      rw [i_in, i_in, decide_eq_true h, decide_eq_true g]
      simp only [Option.bind_some, if_true, Bool.not_true, impl_PortionsOf.j0]
      rw [if_neg (by simp)]
      have r := iport_loop n m h.1 h.2 g.1 g.2 m.toNat k 0 (by omega) (by omega)
      rw [pt_zero] at r
      exact r
    · have e : PO n m = [] := by unfold PO; rw [if_neg (fun x => g x.2)]
      rw [e]
      unfold impl_PortionsOf.f impl_isAmount.f
      rw [i_in, i_in, decide_eq_true h, decide_eq_false g]
      simp [impl_PortionsOf.j0]
  · have e : PO n m = [] := by unfold PO; rw [if_neg (fun x => h x.1)]
    rw [e]
    unfold impl_PortionsOf.f impl_isAmount.f
    rw [i_in, decide_eq_false h]
    simp [impl_PortionsOf.j0]
theorem k_po (k : Nat) (n m : Int) (hk : 40 ≤ k) : spec_PortionsOf.f k n m = some (PO n m) := by
  obtain ⟨k, rfl⟩ : ∃ r, k = r + 1 := ⟨k - 1, by omega⟩
  by_cases h : 0 ≤ n ∧ n ≤ 9999
  · by_cases g : 1 ≤ m ∧ m ≤ 20
    · have e : PO n m = PT n m m.toNat := by unfold PO; rw [if_pos ⟨h, g⟩]
      rw [e]
      unfold spec_PortionsOf.f
      rw [k_in, k_in, decide_eq_true h, decide_eq_true g]
      simp only [Option.bind_some, if_true, Bool.not_true, spec_PortionsOf.j0]
      rw [if_neg (by simp)]
      have r := kport_loop n m h.1 h.2 g.1 g.2 m.toNat k 0 (by omega) (by omega)
      rw [pt_zero] at r
      exact r
    · have e : PO n m = [] := by unfold PO; rw [if_neg (fun x => g x.2)]
      rw [e]
      unfold spec_PortionsOf.f
      rw [k_in, k_in, decide_eq_true h, decide_eq_false g]
      simp [spec_PortionsOf.j0]
  · have e : PO n m = [] := by unfold PO; rw [if_neg (fun x => h x.1)]
    rw [e]
    unfold spec_PortionsOf.f
    rw [k_in, decide_eq_false h]
    simp [spec_PortionsOf.j0]
theorem po_length (n m : Int) : (PO n m).length ≤ 20 := by
  unfold PO
  split
  · rw [pt_length]; omega
  · simp
theorem rd_pt (n m : Int) (c j : Nat) (h : j < c) : rd (PT n m c) (j : Int) = PE n m (j + 1) - PE n m j := by
  simp [rd, PT, h]
theorem pt_take (n m : Int) (c d : Nat) (h : d ≤ c) : (PT n m c).take d = PT n m d := by
  simp [PT, ← List.map_take, List.take_range, Nat.min_eq_left h]

/-! ### sumpt -/
theorem sum_loop (n m : Int) (hn : 0 ≤ n) (hn' : n ≤ 9999) (hm : 1 ≤ m) (c : Nat) (hc : c ≤ 100) : ∀ (d k j : Nat), j + d = c → d < k →
    laws_sumOf.l0 k (PT n m c) (PE n m j) (j : Int) = some (PE n m c)
  | 0, k, j, hj, hk => by
    obtain ⟨k, rfl⟩ : ∃ r, k = r + 1 := ⟨k - 1, by omega⟩
    obtain rfl : j = c := by omega
    simp only [laws_sumOf.l0]
    rw [pt_length, if_neg (by omega)]
  | d + 1, k, j, hj, hk => by
    obtain ⟨k, rfl⟩ : ∃ r, k = r + 1 := ⟨k - 1, by omega⟩
    obtain ⟨_, _, c1, d1⟩ := pe_in n m (j + 1) hn hn' hm (by omega)
    have e : wrap64 ((j : Int) + 1) = ((j + 1 : Nat) : Int) := by rw [w_ _ (by omega) (by omega)]; omega
    simp only [laws_sumOf.l0]
    rw [pt_length, if_pos (by omega), if_pos (by omega), rd_pt n m c j (by omega), e, show PE n m j + (PE n m (j + 1) - PE n m j) = PE n m (j + 1) by omega, w_ _ (by omega) (by omega)]
    exact sum_loop n m hn hn' hm c hc d k (j + 1) (by omega) (by omega)
theorem sum_pt (n m : Int) (hn : 0 ≤ n) (hn' : n ≤ 9999) (hm : 1 ≤ m) (c : Nat) (hc : c ≤ 100) (k : Nat) (hk : c < k) : laws_sumOf.f k (PT n m c) = some (PE n m c) := by
  have h := sum_loop n m hn hn' hm c hc c k 0 (by omega) hk
  rw [show PE n m 0 = 0 by simp [PE]] at h
  exact h

/-! ### sameints -/
theorem same_loop (l : List Int) (hl : l.length ≤ 1000000) : ∀ (d k j : Nat), j + d = l.length → d < k → laws_sameInts.l0 k l l (j : Int) = some true
  | 0, k, j, hj, hk => by
    obtain ⟨k, rfl⟩ : ∃ r, k = r + 1 := ⟨k - 1, by omega⟩
    simp only [laws_sameInts.l0]
    rw [if_neg (by omega)]
  | d + 1, k, j, hj, hk => by
    obtain ⟨k, rfl⟩ : ∃ r, k = r + 1 := ⟨k - 1, by omega⟩
    have e : wrap64 ((j : Int) + 1) = ((j + 1 : Nat) : Int) := by rw [w_ _ (by omega) (by omega)]; omega
    simp only [laws_sameInts.l0, if_true]
    rw [if_pos (by omega), if_pos (by omega), if_pos (by omega), e]
    exact same_loop l hl d k (j + 1) (by omega) (by omega)
theorem same_ints (l : List Int) (hl : l.length ≤ 1000000) (k : Nat) (hk : l.length < k) : laws_sameInts.f k l l = some true := by
  unfold laws_sameInts.f
  rw [if_pos rfl]
  exact same_loop l hl l.length k 0 (by omega) hk

/-! ### pick -/
/-- What a reader of draws holds: at most 2000 bytes. -/
def Ok (s : List Int) : Prop := s.length ≤ 2000 ∧ ∀ x ∈ s, 0 ≤ x ∧ x ≤ 255
theorem rd_ok {s : List Int} (h : Ok s) (i : Int) : 0 ≤ rd s i ∧ rd s i ≤ 255 := by
  unfold rd
  rw [List.getD_eq_getElem?_getD]
  cases e : s[i.toNat]? with
  | none => simp
  | some x => simpa using h.2 x (List.mem_of_getElem? e)
theorem xor_nonneg (x y : Int) (hx : 0 ≤ x) (hx' : x < 9223372036854775808) (hy : 0 ≤ y) (hy' : y < 9223372036854775808) : 0 ≤ Go.bits .xor .i64 x y := by
  obtain ⟨a, rfl⟩ := Int.eq_ofNat_of_zero_le hx
  obtain ⟨b, rfl⟩ := Int.eq_ofNat_of_zero_le hy
  have ha : a < 2 ^ 63 := by omega
  have hb : b < 2 ^ 63 := by omega
  have hc := Nat.xor_lt_two_pow ha hb
  have e1 : a % 2 ^ IntKind.i64.bits = a := Nat.mod_eq_of_lt (Nat.lt_of_lt_of_le ha (Nat.pow_le_pow_right (by decide) (by decide)))
  have e2 : b % 2 ^ IntKind.i64.bits = b := Nat.mod_eq_of_lt (Nat.lt_of_lt_of_le hb (Nat.pow_le_pow_right (by decide) (by decide)))
  simp only [Go.bits, BitVec.ofInt_natCast, BitVec.toNat_xor, BitVec.toNat_ofNat, e1, e2]
  rw [Go.IntKind.wrap_i64]
  omega
theorem pick_ok (k : Nat) (s : List Int) (p n : Int) (hk : 1 ≤ k) (hs : Ok s) (hp : 0 ≤ p) (hp' : p ≤ 1000000) :
    ∃ r, spec_l6Rd_pick.f k s p n = some (r, p + 1) ∧ 0 ≤ r ∧ (1 ≤ n → r < n) ∧ (n < 1 → r = 0) := by
  obtain ⟨k, rfl⟩ : ∃ m, k = m + 1 := ⟨k - 1, by omega⟩
  unfold spec_l6Rd_pick.f
  have e : wrap64 (p + 1) = p + 1 := w_ _ (by omega) (by omega)
  have e' : wrap64 (p + 1 - 1) = p := by rw [w_ _ (by omega) (by omega)]; omega
  rw [e]
  by_cases hn : n < 1
  · rw [if_pos hn]
    refine ⟨0, ?_, by omega, by omega, by omega⟩
    simp [spec_l6Rd_pick.j0]
  · rw [if_neg hn]
    by_cases hl : (s.length : Int) = 0
    · rw [beq_iff_eq.mpr hl]
      refine ⟨0, ?_, by omega, by omega, by omega⟩
      simp [spec_l6Rd_pick.j0]
    · rw [beq_eq_false_iff_ne.mpr hl]
      have hl' : (s.length : Int) ≤ 2000 := by have := hs.1; omega
      simp only [spec_l6Rd_pick.j0, e']
      rw [if_neg (by simp)]
      by_cases c : p < (s.length : Int)
      · rw [if_pos c, if_pos hp, if_neg (by omega)]
        obtain ⟨r0, r1⟩ := rd_ok hs p
        rw [w_ (rd s p) (by omega) (by omega)]
        exact ⟨_, rfl, Int.tmod_nonneg _ r0, fun _ => Int.tmod_lt_of_pos _ (by omega), by omega⟩
      · have a1 := Int.tmod_nonneg (s.length : Int) hp
        have a2 := Int.tmod_lt_of_pos p (b := (s.length : Int)) (by omega)
        have a3 : wrap64 (wrap64 (p * 7) + 3) = p * 7 + 3 := by rw [w_ (p * 7) (by omega) (by omega), w_ _ (by omega) (by omega)]
        have a4 := Int.tmod_nonneg (s.length : Int) (a := p * 7 + 3) (by omega)
        have a5 := Int.tmod_lt_of_pos (p * 7 + 3) (b := (s.length : Int)) (by omega)
        rw [if_neg c, if_neg hl, if_pos a1, if_pos a2, a3, if_pos a4, if_pos a5, if_neg (by omega)]
        obtain ⟨r0, r1⟩ := rd_ok hs (Int.tmod p (s.length : Int))
        obtain ⟨q0, q1⟩ := rd_ok hs (Int.tmod (p * 7 + 3) (s.length : Int))
        generalize rd s (Int.tmod p (s.length : Int)) = A at *
        generalize rd s (Int.tmod (p * 7 + 3) (s.length : Int)) = B at *
        have d0 : 0 ≤ Int.tdiv p (s.length : Int) := Int.tdiv_nonneg hp (by omega)
        have d1 : Int.tdiv p (s.length : Int) ≤ p := by rw [Int.tdiv_eq_ediv_of_nonneg hp]; exact Int.ediv_le_self _ hp
        generalize Int.tdiv p (s.length : Int) = D at *
        simp (disch := omega) only [w_]
        have x0 : 0 ≤ A * 131 + B * 1117 + p * 29 + D * 53 := by omega
        have x1 : A * 131 + B * 1117 + p * 29 + D * 53 ≤ 100000000 := by omega
        generalize A * 131 + B * 1117 + p * 29 + D * 53 = X at *
        have y0 : 0 ≤ Int.tdiv X 64 := Int.tdiv_nonneg x0 (by omega)
        have y1 : Int.tdiv X 64 ≤ X := by rw [Int.tdiv_eq_ediv_of_nonneg x0]; exact Int.ediv_le_self _ x0
        simp (disch := omega) only [w_]
        exact ⟨_, rfl, Int.tmod_nonneg _ (xor_nonneg _ _ (by omega) (by omega) (by omega) (by omega)), fun _ => Int.tmod_lt_of_pos _ (by omega), by omega⟩
theorem open_ok (l : List Int) (h : ∀ x ∈ l, (Lit.int .u8 x).wf = true) : ∃ s, spec_l6Open.f l = some (s, 0) ∧ Ok s := by
  have b : ∀ x ∈ l, 0 ≤ x ∧ x ≤ 255 := fun x hx => by
    have := h x hx
    simp [Lit.wf, IntKind.min, IntKind.max, IntKind.bits, IntKind.signed] at this
    omega
  unfold spec_l6Open.f
  by_cases c : (l.length : Int) > 2000
  · rw [if_pos c, if_pos (by omega)]
    exact ⟨_, rfl, by rw [List.length_take]; omega, fun x hx => b x (List.mem_of_mem_take hx)⟩
  · rw [if_neg c]
    exact ⟨_, rfl, by omega, b⟩

/-! ### dport -/
theorem dport_ok (k : Nat) (l : List Int) (hk : 1 ≤ k) (hl : ∀ x ∈ l, (Lit.int .u8 x).wf = true) : ∃ n m, spec_DrawPortionsOf.f k l = some (n, m) := by
  unfold spec_DrawPortionsOf.f
  obtain ⟨s, es, hs⟩ := open_ok l hl
  rw [es]; simp only [Option.bind_some]
  obtain ⟨r1, e1, _⟩ := pick_ok k s 0 12 hk hs (by omega) (by omega)
  rw [e1]; simp only [Option.bind_some]
  by_cases h : r1 = 0
  · obtain ⟨r3, e3, a3, b3, c3⟩ := pick_ok k s (0 + 1) 4 hk hs (by omega) (by omega)
    obtain ⟨r4, e4, a4, b4, c4⟩ := pick_ok k s (0 + 1 + 1) 4 hk hs (by omega) (by omega)
    rw [if_pos h, e3]; simp only [Option.bind_some, List.length_cons, List.length_nil]
    rw [if_pos a3, if_pos (by have := b3 (by omega); omega), e4]; simp only [Option.bind_some]
    rw [if_pos a4, if_pos (by have := b4 (by omega); omega)]
    exact ⟨_, _, rfl⟩
  · obtain ⟨r2, e2, _⟩ := pick_ok k s (0 + 1) 250 hk hs (by omega) (by omega)
    obtain ⟨r3, e3, _⟩ := pick_ok k s (0 + 1 + 1) 8 hk hs (by omega) (by omega)
    obtain ⟨r4, e4, _⟩ := pick_ok k s (0 + 1 + 1 + 1) 20 hk hs (by omega) (by omega)
    rw [if_neg h, e2]; simp only [Option.bind_some]
    rw [e3]; simp only [Option.bind_some]
    rw [e4]; simp only [Option.bind_some]
    exact ⟨_, _, rfl⟩

theorem FnPortionsBegin : laws_FnPortionsBegin.Pure := by
  intro l l1 _ _ hl hl1 hb _
  refine ⟨200, ?_⟩
  unfold laws_FnPortionsBegin.f
  by_cases c : (l.length : Int) > 1048576
  · rw [if_pos c]
    show laws_FnPortionsBegin.j0 (199 + 1) _ _ _ = _
    simp [laws_FnPortionsBegin.j0]
  · rw [if_neg c]
    show laws_FnPortionsBegin.j0 (199 + 1) _ _ _ = _
    simp only [laws_FnPortionsBegin.j0]
    by_cases c1 : (l1.length : Int) > 1048576
    · rw [if_pos (by simp; omega)]
    · rw [if_neg (by simp; omega)]
      obtain ⟨n, m, e⟩ := dport_ok 199 l (by omega) hl
      have pl := po_length n m
      rw [e]; simp only [Option.bind_some]
      rw [i_po 199 _ _ (by omega), k_po 199 _ _ (by omega)]; simp only [Option.bind_some]
      rw [same_ints _ (by omega) 199 (by omega)]; simp only [Option.bind_some, if_true]
      show laws_FnPortionsBegin.j1 (198 + 1) _ _ _ _ _ _ = _
      simp only [laws_FnPortionsBegin.j1]
      by_cases h : (0 ≤ n ∧ n ≤ 9999) ∧ (1 ≤ m ∧ m ≤ 20)
      · have e1 : PO n m = PT n m m.toNat := by unfold PO; rw [if_pos h]
        have m0 := Int.emod_nonneg (l1.length : Int) (b := m + 1) (by omega)
        have m1 := Int.emod_lt_of_pos (l1.length : Int) (b := m + 1) (by omega)
        rw [e1, pt_length, if_neg (by simp; omega), w_ (m + 1) (by omega) (by omega), if_neg (by omega), if_pos m0, if_pos (by omega)]
        obtain ⟨j, hj⟩ := Int.eq_ofNat_of_zero_le m0
        rw [hj] at m1 ⊢
        rw [Int.toNat_natCast, pt_take _ _ _ _ (by omega), sum_pt n m h.1.1 h.1.2 h.2.1 j (by omega) 198 (by omega)]
        simp only [Option.bind_some]
        rw [if_neg (by omega), pe_val n m j h.1.1 h.1.2 h.2.1 (by omega)]
        simp
      · have e1 : PO n m = [] := by unfold PO; rw [if_neg h]
        rw [e1, if_pos (by simp), same_ints [] (by simp) 198 (by simp)]
        rfl

end Go.Proofs.Ytkjkapmjhafimaa.Pure

namespace Go.Proofs.Ytkjkapmjhafimaa.PrintWords
/-- The printed row looks for the word under this name. -/
abbrev sized_ints := @Go.Proofs.YtkjkapmjhafimaaW.PrintWords.sized_ints
end Go.Proofs.Ytkjkapmjhafimaa.PrintWords
