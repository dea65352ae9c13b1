/- FnExactSpansFree answers true at every list of spans and every span. -/
import Derived.Test.YtphjimjcfpnkmaaQFnExactSpansFree
namespace Go.Proofs.Ytphjimjcfpnkmaa.Pure
open Go.RowKit Go.Proofs.Ytphjimjcfpnkmaa.PFnExactSpansFree Go.Proofs.YtphjimjcfpnkmaaW.PrintWords Go.Proofs.YtphjimjcfpnkmaaW.PrintLast
set_option linter.unusedSimpArgs false
set_option linter.unusedVariables false

/-! ### core -/
theorem k_in (a b c : Int) : spec_l6In.f a b c = some (decide (b ≤ a ∧ a ≤ c)) := by
  unfold spec_l6In.f
  by_cases h : b ≤ a <;> simp [h]
theorem i_in (a b c : Int) : impl_within.f a b c = some (decide (b ≤ a ∧ a ≤ c)) := by
  unfold impl_within.f
  by_cases h : b ≤ a <;> simp [h]
theorem w_ (n : Int) (h : -9223372036854775808 ≤ n) (h' : n ≤ 9223372036854775807) : wrap64 n = n := by unfold wrap64; omega
theorem div_low (a b : Int) (hb : 0 < b) : (a / b) * b ≤ a := Int.ediv_mul_le a (by omega)
theorem div_high (a b : Int) (hb : 0 < b) : a < (a / b) * b + b := by
  have h := Int.lt_ediv_add_one_mul_self a hb
  rw [Int.add_mul] at h
  omega
theorem div_is (a b q : Int) (hb : 0 < b) (h1 : q * b ≤ a) (h2 : a < q * b + b) : a / b = q := by
  have h3 := Int.le_ediv_of_mul_le hb h1
  have h4 : a / b < q + 1 := Int.ediv_lt_of_lt_mul hb (by rw [Int.add_mul]; omega)
  omega

/-! ### toSpan -/
/-- The same fields, of the other type. -/
def cv_span (x : S32) : S29 := ⟨x.f0, x.f1⟩
theorem rdl_span (l : List S32) (j : Nat) (h : j < l.length) : rd_T32 l (j : Int) = l[j] := by
  simp [rd_T32, h]
theorem to_set_span (l : List S32) (j : Nat) (h : j < l.length) : ((l.take j).map cv_span ++ List.replicate (l.length - j) z29).set j (cv_span l[j]) = (l.take (j + 1)).map cv_span ++ List.replicate (l.length - (j + 1)) z29 := by
  obtain ⟨m, hm⟩ : ∃ m, l.length - j = m + 1 := ⟨l.length - j - 1, by omega⟩
  have hl : ((l.take j).map cv_span).length = j := by simp; omega
  rw [List.set_append_right _ _ (by omega), hl, Nat.sub_self, hm, List.replicate_succ, List.set_cons_zero, List.take_succ_eq_append_getElem h, show l.length - (j + 1) = m by omega, List.map_append, List.append_assoc]
  rfl
theorem to_loop_span (l : List S32) (hl : l.length ≤ 1048576) : ∀ (d k j : Nat), j + d = l.length → d < k →
    laws_toSpanS.l0 k l ((l.take j).map cv_span ++ List.replicate (l.length - j) z29) (j : Int) = some (l.map cv_span)
  | 0, k, j, hj, hk => by
    obtain ⟨k, rfl⟩ : ∃ r, k = r + 1 := ⟨k - 1, by omega⟩
    obtain rfl : j = l.length := by omega
    simp only [laws_toSpanS.l0]
    rw [if_neg (by omega)]
    simp
  | d + 1, k, j, hj, hk => by
    obtain ⟨k, rfl⟩ : ∃ r, k = r + 1 := ⟨k - 1, by omega⟩
    have e : wrap64 ((j : Int) + 1) = ((j + 1 : Nat) : Int) := by rw [w_ _ (by omega) (by omega)]; omega
    have t : ((j : Int)).toNat = j := by omega
    have s := to_set_span l j (by omega)
    simp only [laws_toSpanS.l0, laws_toSpan.f, Option.bind_some]
    rw [if_pos (by omega), if_pos (by omega), if_pos (by simp; omega), t, rdl_span l j (by omega), e]
    simp only [cv_span] at s
    rw [s]
    exact to_loop_span l hl d k (j + 1) (by omega) (by omega)
theorem to_span (l : List S32) (hl : l.length ≤ 1048576) (k : Nat) (hk : l.length < k) : laws_toSpanS.f k l = some (l.map cv_span) := by
  unfold laws_toSpanS.f
  have h := to_loop_span l hl l.length k 0 (by omega) hk
  rw [if_pos (by omega), if_pos (by omega)]
  simpa using h
theorem sz_span (l : List S32) (hl : l.length ≤ maxLen) : laws_szSpanS.f l 1048576 = some (if l.length ≤ 1048576 then (1048576 : Int) - l.length else -1) := by
  unfold maxLen at hl
  unfold laws_szSpanS.f
  rw [w_ _ (by omega) (by omega)]
  by_cases h : l.length ≤ 1048576
  · rw [if_neg (by omega), if_pos h]
  · rw [if_pos (by omega), if_neg h]

/-! ### eqSpan -/
theorem eq_loop_span (l : List S29) (hl : l.length ≤ 1048576) : ∀ (d k j : Nat), j + d = l.length → d < k → laws_eqSpanS.l0 k l l (j : Int) = some true
  | 0, k, j, hj, hk => by
    obtain ⟨k, rfl⟩ : ∃ r, k = r + 1 := ⟨k - 1, by omega⟩
    simp only [laws_eqSpanS.l0]
    rw [if_neg (by omega)]
  | d + 1, k, j, hj, hk => by
    obtain ⟨k, rfl⟩ : ∃ r, k = r + 1 := ⟨k - 1, by omega⟩
    have e : wrap64 ((j : Int) + 1) = ((j + 1 : Nat) : Int) := by rw [w_ _ (by omega) (by omega)]; omega
    simp only [laws_eqSpanS.l0, laws_eqSpan.f, if_true, Option.bind_some]
    rw [if_pos (by omega), if_pos (by omega), if_pos (by omega), e]
    exact eq_loop_span l hl d k (j + 1) (by omega) (by omega)
theorem eq_span (l : List S29) (hl : l.length ≤ 1048576) (k : Nat) (hk : l.length < k) : laws_eqSpanS.f k l l = some true := by
  unfold laws_eqSpanS.f
  rw [if_pos rfl]
  exact eq_loop_span l hl l.length k 0 (by omega) hk

/-! ### markSpan -/
/-- The marks of n spans. -/
def MS (n : Nat) : List S29 := (List.range n).map fun (j : Nat) => (⟨2 * (j : Int) + 1, 2 * (j : Int) + 2⟩ : S29)
theorem ms_length (n : Nat) : (MS n).length = n := by simp [MS]
theorem ms_set (l : List S29) (j : Nat) (h : j < l.length) : (MS j ++ l.drop j).set j ⟨2 * (j : Int) + 1, 2 * (j : Int) + 2⟩ = MS (j + 1) ++ l.drop (j + 1) := by
  rw [List.set_append_right _ _ (by simp [MS]), ms_length, Nat.sub_self, List.drop_eq_getElem_cons h, List.set_cons_zero]
  simp [MS, List.range_succ]
theorem mark_loop_span (l : List S29) (hl : l.length ≤ 1048576) : ∀ (d k j : Nat), j + d = l.length → d < k →
    laws_markSpanS.l0 k (MS j ++ l.drop j) (2 * (j : Int) + 1) (j : Int) = some (2 * (l.length : Int) + 1, MS l.length)
  | 0, k, j, hj, hk => by
    obtain ⟨k, rfl⟩ : ∃ r, k = r + 1 := ⟨k - 1, by omega⟩
    obtain rfl : j = l.length := by omega
    simp only [laws_markSpanS.l0]
    rw [if_neg (by simp [ms_length])]
    simp
  | d + 1, k, j, hj, hk => by
    obtain ⟨k, rfl⟩ : ∃ r, k = r + 1 := ⟨k - 1, by omega⟩
    have e : wrap64 ((j : Int) + 1) = ((j + 1 : Nat) : Int) := by rw [w_ _ (by omega) (by omega)]; omega
    have e' : wrap64 (2 * (j : Int) + 1 + 1) = 2 * (j : Int) + 2 := by rw [w_ _ (by omega) (by omega)]; omega
    have e2 : wrap64 (2 * (j : Int) + 2 + 1) = 2 * ((j + 1 : Nat) : Int) + 1 := by rw [w_ _ (by omega) (by omega)]; omega
    have t : ((j : Int)).toNat = j := by omega
    have hlen : (MS j ++ l.drop j).length = l.length := by rw [List.length_append, ms_length, List.length_drop]; omega
    simp only [laws_markSpanS.l0, Option.bind_some]
    rw [if_pos (by rw [hlen]; omega), if_pos (by omega), e', e2, e]
    have hx : rd_T29 ((MS j ++ l.drop j).set ((j : Int)).toNat ⟨2 * (j : Int) + 1, (rd_T29 (MS j ++ l.drop j) (j : Int)).f1⟩) (j : Int) = ⟨2 * (j : Int) + 1, (rd_T29 (MS j ++ l.drop j) (j : Int)).f1⟩ := by
      unfold rd_T29
      rw [List.getD_eq_getElem?_getD, t, List.getElem?_set_self (by rw [hlen]; omega)]
      rfl
    rw [hx, List.set_set, t, ms_set l j (by omega)]
    exact mark_loop_span l hl d k (j + 1) (by omega) (by omega)
theorem mark_span (l : List S29) (hl : l.length ≤ 1048576) (k : Nat) (hk : l.length < k) : laws_markSpanS.f k l 1 = some (2 * (l.length : Int) + 1, MS l.length) := by
  have h := mark_loop_span l hl l.length k 0 (by omega) hk
  unfold laws_markSpanS.f
  simpa [MS] using h
theorem rd_ms (n j : Nat) (h : j < n) : rd_T29 (MS n) (j : Int) = ⟨2 * (j : Int) + 1, 2 * (j : Int) + 2⟩ := by
  simp [rd_T29, MS, h]
theorem held_loop_span (n : Nat) (hn : n ≤ 1048576) : ∀ (d k j : Nat), j + d = n → d < k → laws_heldSpanS.l0 k (MS n) (2 * (j : Int) + 1) (j : Int) = some (2 * (n : Int) + 1)
  | 0, k, j, hj, hk => by
    obtain ⟨k, rfl⟩ : ∃ r, k = r + 1 := ⟨k - 1, by omega⟩
    obtain rfl : j = n := by omega
    simp only [laws_heldSpanS.l0]
    rw [if_neg (by simp [ms_length])]
  | d + 1, k, j, hj, hk => by
    obtain ⟨k, rfl⟩ : ∃ r, k = r + 1 := ⟨k - 1, by omega⟩
    have e : wrap64 ((j : Int) + 1) = ((j + 1 : Nat) : Int) := by rw [w_ _ (by omega) (by omega)]; omega
    have e' : wrap64 (2 * (j : Int) + 1 + 1) = 2 * (j : Int) + 2 := by rw [w_ _ (by omega) (by omega)]; omega
    have e2 : wrap64 (2 * (j : Int) + 2 + 1) = 2 * ((j + 1 : Nat) : Int) + 1 := by rw [w_ _ (by omega) (by omega)]; omega
    simp only [laws_heldSpanS.l0]
    rw [if_pos (by rw [ms_length]; omega), if_pos (by omega), rd_ms n j (by omega), if_pos rfl, e', if_pos rfl, e2, e]
    exact held_loop_span n hn d k (j + 1) (by omega) (by omega)
theorem held_span (n : Nat) (hn : n ≤ 1048576) (k : Nat) (hk : n < k) : laws_heldSpanS.f k (MS n) 1 = some (2 * (n : Int) + 1) := by
  have h := held_loop_span n hn n k 0 (by omega) hk
  unfold laws_heldSpanS.f
  simpa using h

/-! ### runs -/
/-- One minute more; the last run lies in front. -/
def put : List S29 → Int → List S29
  | [], m => [⟨m, m + 1⟩]
  | s :: t, m => if s.f1 = m then ⟨s.f0, m + 1⟩ :: t else ⟨m, m + 1⟩ :: s :: t
/-- The runs of the minutes before n, the last in front. -/
def RR (p : Int → Bool) : Nat → List S29
  | 0 => []
  | n + 1 => if p (n : Int) = true then put (RR p n) (n : Int) else RR p n
/-- The runs of all minutes. -/
def RU (p : Int → Bool) : List S29 := (RR p 1440).reverse
theorem put_cons (s : S29) (t : List S29) (m : Int) : put (s :: t) m = if s.f1 = m then ⟨s.f0, m + 1⟩ :: t else ⟨m, m + 1⟩ :: s :: t := rfl
theorem rr_succ (p : Int → Bool) (n : Nat) : RR p (n + 1) = if p (n : Int) = true then put (RR p n) (n : Int) else RR p n := rfl
theorem put_length (r : List S29) (m : Int) : (put r m).length ≤ r.length + 1 := by
  cases r with
  | nil => simp [put]
  | cons s t => rw [put_cons]; split <;> simp
theorem rr_length (p : Int → Bool) (n : Nat) : (RR p n).length ≤ n := by
  induction n with
  | zero => simp [RR]
  | succ n ih =>
    rw [rr_succ]
    split
    · have := put_length (RR p n) (n : Int); omega
    · omega
theorem rr_congr (p q : Int → Bool) (n : Nat) (h : ∀ m : Int, 0 ≤ m → m < (n : Int) → p m = q m) : RR p n = RR q n := by
  induction n with
  | zero => rfl
  | succ n ih =>
    rw [rr_succ]
    rw [rr_succ, h (n : Int) (by omega) (by omega), ih fun m h0 h1 => h m h0 (by omega)]
theorem ru_congr (p q : Int → Bool) (h : ∀ m : Int, 0 ≤ m → m < 1440 → p m = q m) : RU p = RU q := by
  unfold RU
  rw [rr_congr p q 1440 h]
theorem rr_none (p : Int → Bool) (n : Nat) (h : ∀ m : Int, 0 ≤ m → m < (n : Int) → p m = false) : RR p n = [] := by
  induction n with
  | zero => rfl
  | succ n ih =>
    rw [rr_succ]
    rw [h (n : Int) (by omega) (by omega), if_neg (by decide)]
    exact ih fun m h0 h1 => h m h0 (by omega)
theorem rr_stay (p : Int → Bool) (n d : Nat) (h : ∀ m : Int, (n : Int) ≤ m → p m = false) : RR p (n + d) = RR p n := by
  induction d with
  | zero => rfl
  | succ d ih =>
    rw [show n + (d + 1) = (n + d) + 1 by omega]
    rw [rr_succ]
    rw [h ((n + d : Nat) : Int) (by omega), if_neg (by decide)]
    exact ih
theorem any_mem (r : List S29) (m : Int) : spAny r m = true ↔ ∃ s ∈ r, s.f0 ≤ m ∧ m < s.f1 := by
  unfold spAny spHas
  simp
theorem any_cons (s : S29) (t : List S29) (m : Int) : spAny (s :: t) m = (spHas s m || spAny t m) := rfl
theorem any_rev (r : List S29) (m : Int) : spAny r.reverse m = spAny r m := by
  unfold spAny
  rw [List.any_reverse]
/-- What holds of the runs of the minutes before n. -/
def Inv (p : Int → Bool) (n : Nat) (r : List S29) : Prop :=
  (∀ s ∈ r, 0 ≤ s.f0 ∧ s.f0 < s.f1 ∧ s.f1 ≤ (n : Int)) ∧ r.Pairwise (fun a b => b.f1 < a.f0) ∧ (∀ s ∈ r, s.f1 < (n : Int) → p s.f1 = false) ∧
  (∀ s ∈ r, p s.f0 = true ∧ (s.f0 = 0 ∨ p (s.f0 - 1) = false)) ∧ (∀ m : Int, spAny r m = (decide (0 ≤ m) && decide (m < (n : Int)) && p m))
theorem inv_skip (p : Int → Bool) (n : Nat) (r : List S29) (h : Inv p n r) (hp : p (n : Int) = false) : Inv p (n + 1) r := by
  obtain ⟨h1, h2, h3, h4, h5⟩ := h
  refine ⟨fun s hs => by have := h1 s hs; omega, h2, fun s hs hlt => ?_, h4, fun m => ?_⟩
  · by_cases e : s.f1 = (n : Int)
    · rw [e]; exact hp
    · exact h3 s hs (by have := h1 s hs; omega)
  · rw [h5 m]
    by_cases e : m = (n : Int)
    · subst e; simp [hp]
    · rw [show decide (m < ((n + 1 : Nat) : Int)) = decide (m < (n : Int)) by apply decide_eq_decide.mpr; omega]
theorem inv_put (p : Int → Bool) (n : Nat) (r : List S29) (h : Inv p n r) (hp : p (n : Int) = true) : Inv p (n + 1) (put r (n : Int)) := by
  obtain ⟨h1, h2, h3, h4, h5⟩ := h
  have hlast : ∀ s t, r = s :: t → ∀ x ∈ t, x.f1 < s.f0 := fun s t e x hx => by
    rw [e] at h2
    exact (List.pairwise_cons.mp h2).1 x hx
  have hm : ∀ m : Int, (decide (0 ≤ m) && decide (m < ((n + 1 : Nat) : Int)) && p m) = (decide (m = (n : Int)) || (decide (0 ≤ m) && decide (m < (n : Int)) && p m)) := fun m => by
    by_cases e : m = (n : Int)
    · subst e; simp [hp]; omega
    · rw [show decide (m < ((n + 1 : Nat) : Int)) = decide (m < (n : Int)) by apply decide_eq_decide.mpr; omega, decide_eq_false e, Bool.false_or]
  have hnew : (∀ s ∈ r, s.f1 < (n : Int)) → ((n : Int) = 0 ∨ p ((n : Int) - 1) = false) := fun hr => by
    by_cases e : n = 0
    · left; omega
    · right
      have := h5 ((n : Int) - 1)
      rw [decide_eq_true (show (0 : Int) ≤ (n : Int) - 1 by omega), decide_eq_true (show (n : Int) - 1 < (n : Int) by omega), Bool.true_and, Bool.true_and] at this
      rw [← this]
      by_cases g : spAny r ((n : Int) - 1) = true
      · obtain ⟨s, hs, a, b⟩ := (any_mem r _).1 g
        have := hr s hs
        omega
      · exact Bool.eq_false_iff.mpr g
  match r, h1, h2, h3, h4, h5, hlast, hnew with
  | [], h1, h2, h3, h4, h5, hlast, hnew =>
    refine ⟨fun s hs => ?_, List.pairwise_singleton _ _, fun s hs hlt => ?_, fun s hs => ?_, fun m => ?_⟩
    · obtain rfl := List.mem_singleton.mp hs; simp; omega
    · obtain rfl := List.mem_singleton.mp hs; simp at hlt
    · obtain rfl := List.mem_singleton.mp hs; exact ⟨hp, hnew fun s hs => by simp at hs⟩
    · rw [hm m, ← h5 m]
      simp only [put, any_cons, spHas, spAny, List.any_nil, Bool.or_false]
      rw [Bool.eq_iff_iff]; simp; omega
  | s :: t, h1, h2, h3, h4, h5, hlast, hnew =>
    have hl := hlast s t rfl
    have hs1 := h1 s (List.mem_cons_self ..)
    rw [put_cons]
    by_cases c : s.f1 = (n : Int)
    · rw [if_pos c]
      refine ⟨fun x hx => ?_, List.pairwise_cons.mpr ⟨fun x hx => hl x hx, (List.pairwise_cons.mp h2).2⟩, fun x hx hlt => ?_, fun x hx => ?_, fun m => ?_⟩
      · rcases List.mem_cons.mp hx with rfl | hx
        · simp only; omega
        · have := h1 x (List.mem_cons_of_mem _ hx); omega
      · rcases List.mem_cons.mp hx with rfl | hx
        · simp at hlt
        · have := hl x hx
          exact h3 x (List.mem_cons_of_mem _ hx) (by omega)
      · rcases List.mem_cons.mp hx with rfl | hx
        · exact h4 s (List.mem_cons_self ..)
        · exact h4 x (List.mem_cons_of_mem _ hx)
      · rw [hm m, ← h5 m, any_cons, any_cons, ← Bool.or_assoc]
        congr 1
        unfold spHas
        rw [Bool.eq_iff_iff]; simp; omega
    · rw [if_neg c]
      have hall : ∀ x ∈ s :: t, x.f1 < (n : Int) := fun x hx => by
        rcases List.mem_cons.mp hx with rfl | hx
        · omega
        · have := hl x hx; omega
      refine ⟨fun x hx => ?_, List.pairwise_cons.mpr ⟨fun x hx => hall x hx, h2⟩, fun x hx hlt => ?_, fun x hx => ?_, fun m => ?_⟩
      · rcases List.mem_cons.mp hx with rfl | hx
        · simp; omega
        · have := h1 x hx; omega
      · rcases List.mem_cons.mp hx with rfl | hx
        · simp at hlt
        · exact h3 x hx (hall x hx)
      · rcases List.mem_cons.mp hx with rfl | hx
        · exact ⟨hp, hnew hall⟩
        · exact h4 x hx
      · rw [hm m, ← h5 m, any_cons (⟨_, _⟩)]
        congr 1
        unfold spHas
        rw [Bool.eq_iff_iff]; simp; omega
theorem rr_inv (p : Int → Bool) (n : Nat) : Inv p n (RR p n) := by
  induction n with
  | zero =>
    refine ⟨fun s hs => by simp [RR] at hs, List.Pairwise.nil, fun s hs => by simp [RR] at hs, fun s hs => by simp [RR] at hs, fun m => ?_⟩
    simp only [RR, spAny, List.any_nil]
    symm
    rw [Bool.eq_false_iff]; simp; omega
  | succ n ih =>
    rw [rr_succ]
    split
    · exact inv_put p n _ ih (by assumption)
    · exact inv_skip p n _ ih (Bool.eq_false_iff.mpr (by assumption))
theorem fewer (r : List S29) (h : r.Pairwise (fun a b => b.f0 < a.f0)) : ∀ (L : List Int), (∀ s ∈ r, s.f0 ∈ L) → r.length ≤ L.length := by
  induction r with
  | nil => intro L _; simp
  | cons s t ih =>
    intro L hL
    have hs := hL s (List.mem_cons_self ..)
    have hp := List.pairwise_cons.mp h
    have := ih hp.2 (L.erase s.f0) fun x hx => (List.mem_erase_of_ne (by have := hp.1 x hx; omega)).mpr (hL x (List.mem_cons_of_mem _ hx))
    rw [List.length_erase_of_mem hs] at this
    have hpos : 0 < L.length := List.length_pos_of_mem hs
    simp; omega
theorem ru_few (p : Int → Bool) (L : List Int) (h : ∀ m : Int, 0 ≤ m → m < 1440 → p m = true → (m = 0 ∨ p (m - 1) = false) → m ∈ L) : (RU p).length ≤ L.length := by
  obtain ⟨h1, h2, h3, h4, h5⟩ := rr_inv p 1440
  unfold RU
  rw [List.length_reverse]
  refine fewer _ (List.Pairwise.imp_of_mem (fun {a b} ha hb hab => by have := h1 b hb; omega) h2) L fun s hs => ?_
  have a := h1 s hs
  have b := h4 s hs
  exact h s.f0 (by omega) (by omega) b.1 b.2
theorem ru_any (p : Int → Bool) (m : Int) (h0 : 0 ≤ m) (h1 : m < 1440) : spAny (RU p) m = p m := by
  have := (rr_inv p 1440).2.2.2.2 m
  unfold RU
  rw [any_rev, this, decide_eq_true h0, decide_eq_true (show m < ((1440 : Nat) : Int) by omega), Bool.true_and, Bool.true_and]
theorem ru_mem (p : Int → Bool) (s : S29) (hs : s ∈ RU p) : 0 ≤ s.f0 ∧ s.f0 < s.f1 ∧ s.f1 ≤ 1440 ∧ (s.f1 < 1440 → p s.f1 = false) := by
  obtain ⟨h1, h2, h3, h4, h5⟩ := rr_inv p 1440
  have hs' : s ∈ RR p 1440 := List.mem_reverse.mp hs
  have a := h1 s hs'
  exact ⟨a.1, a.2.1, a.2.2, fun h => h3 s hs' h⟩
theorem ru_gap (p : Int → Bool) : (RU p).Pairwise (fun a b => a.f1 < b.f0) := by
  unfold RU
  rw [List.pairwise_reverse]
  exact (rr_inv p 1440).2.1
theorem ru_len (p : Int → Bool) : (RU p).length ≤ 1440 := by
  unfold RU
  rw [List.length_reverse]
  exact rr_length p 1440
/-! Reads and writes at the last run. -/
theorem last_rd (s : S29) (t : List S29) : rd_T29 (s :: t).reverse (t.length : Int) = s := by
  unfold rd_T29
  rw [List.reverse_cons, List.getD_eq_getElem?_getD, Int.toNat_natCast, List.getElem?_append_right (by simp)]
  simp
theorem last_set (s v : S29) (t : List S29) : (s :: t).reverse.set ((t.length : Int)).toNat v = (v :: t).reverse := by
  rw [List.reverse_cons, List.reverse_cons, Int.toNat_natCast, List.set_append_right _ _ (by simp), List.length_reverse, Nat.sub_self, List.set_cons_zero]
theorem app_rev (r : List S29) (v : S29) : r.reverse ++ [v] = (v :: r).reverse := (List.reverse_cons ..).symm

/-! ### sval -/
theorem k_min (a : Int) (b : Int) : spec_l4Span.f a b = some (decide ((0 ≤ a ∧ a ≤ 1439) ∧ (a + 1 ≤ b ∧ b ≤ 1440))) := by
  unfold spec_l4Span.f
  rw [k_in]
  by_cases h : 0 ≤ a ∧ a ≤ 1439
  · rw [w_ (a + 1) (by omega) (by omega), k_in]
    simp [h]
  · simp [h]
theorem i_min (a : Int) (b : Int) : impl_spanValid.f a b = some (decide ((0 ≤ a ∧ a ≤ 1439) ∧ (a + 1 ≤ b ∧ b ≤ 1440))) := by
  unfold impl_spanValid.f impl_isMinute.f
  rw [i_in]
  by_cases h : 0 ≤ a ∧ a ≤ 1439
  · rw [w_ (a + 1) (by omega) (by omega), i_in]
    simp [h]
  · simp [h]
/-- A span is valid. -/
def okS (s : S29) : Bool := decide ((0 ≤ s.f0 ∧ s.f0 ≤ 1439) ∧ (s.f0 + 1 ≤ s.f1 ∧ s.f1 ≤ 1440))
/-- Spans are valid. -/
def SV (l : List S29) : Bool := l.all okS && decide ((l.length : Int) ≤ 10)
theorem rd_sp (l : List S29) (j : Nat) (h : j < l.length) : rd_T29 l (j : Int) = l[j] := by
  simp [rd_T29, h]
theorem all_drop (l : List S29) (p : S29 → Bool) (j : Nat) (h : j < l.length) : (l.drop j).all p = (p l[j] && (l.drop (j + 1)).all p) := by
  rw [List.drop_eq_getElem_cons h, List.all_cons]
theorem ksv_loop (l : List S29) (hl : l.length ≤ 1048576) : ∀ (d k j : Nat), j + d = l.length → d < k →
    spec_SpansValid.l0 k l (j : Int) = some ((l.drop j).all okS && decide ((l.length : Int) ≤ 10))
  | 0, k, j, hj, hk => by
    obtain ⟨k, rfl⟩ : ∃ r, k = r + 1 := ⟨k - 1, by omega⟩
    obtain rfl : j = l.length := by omega
    simp only [spec_SpansValid.l0]
    rw [if_neg (by omega)]
    simp
  | d + 1, k, j, hj, hk => by
    obtain ⟨k, rfl⟩ : ∃ r, k = r + 1 := ⟨k - 1, by omega⟩
    have e : wrap64 ((j : Int) + 1) = ((j + 1 : Nat) : Int) := by rw [w_ _ (by omega) (by omega)]; omega
    simp only [spec_SpansValid.l0]
    rw [if_pos (by omega), if_pos (by omega), rd_sp l j (by omega), k_min, e, all_drop l okS j (by omega)]
    simp only [Option.bind_some]
    by_cases c : okS l[j] = true
    · rw [c, show decide _ = true from c, if_pos rfl, Bool.true_and]
      exact ksv_loop l hl d k (j + 1) (by omega) (by omega)
    · have c' := Bool.eq_false_iff.mpr c
      rw [c', show decide _ = false from c']
      simp
theorem isv_loop (l : List S29) (hl : l.length ≤ 1048576) : ∀ (d k j : Nat), j + d = l.length → d < k →
    impl_SpansValid.l0 k l l (l.length : Int) (j : Int) = some ((l.drop j).all okS && decide ((l.length : Int) ≤ 10))
  | 0, k, j, hj, hk => by
    obtain ⟨k, rfl⟩ : ∃ r, k = r + 1 := ⟨k - 1, by omega⟩
    obtain rfl : j = l.length := by omega
    simp only [impl_SpansValid.l0]
    rw [if_neg (by omega)]
    simp
  | d + 1, k, j, hj, hk => by
    obtain ⟨k, rfl⟩ : ∃ r, k = r + 1 := ⟨k - 1, by omega⟩
    have e : wrap64 ((j : Int) + 1) = ((j + 1 : Nat) : Int) := by rw [w_ _ (by omega) (by omega)]; omega
    simp only [impl_SpansValid.l0]
    rw [if_pos (by omega), if_pos (by omega), if_pos (by omega), rd_sp l j (by omega), i_min, e, all_drop l okS j (by omega)]
    simp only [Option.bind_some]
    by_cases c : okS l[j] = true
    · rw [c, show decide _ = true from c, if_pos rfl, Bool.true_and]
      exact isv_loop l hl d k (j + 1) (by omega) (by omega)
    · have c' := Bool.eq_false_iff.mpr c
      rw [c', show decide _ = false from c']
      simp
theorem k_sv (l : List S29) (hl : l.length ≤ 1048576) (k : Nat) (hk : l.length < k) : spec_SpansValid.f k l = some (SV l) :=
  ksv_loop l hl l.length k 0 (by omega) hk
theorem i_sv (l : List S29) (hl : l.length ≤ 1048576) (k : Nat) (hk : l.length < k) : impl_SpansValid.f k l = some (SV l) :=
  isv_loop l hl l.length k 0 (by omega) hk

/-! ### iruns -/
theorem is_loop (p : Int → Bool) (d : Nat) : ∀ (k n : Nat), n + d = 1440 → d < k → impl_spansOf.l0 p k (RR p n).reverse (n : Int) = some (RU p) := by
  induction d with
  | zero =>
    intro k n hn hk
    obtain ⟨k, rfl⟩ : ∃ r, k = r + 1 := ⟨k - 1, by omega⟩
    obtain rfl : n = 1440 := by omega
    simp only [impl_spansOf.l0]
    rw [if_neg (by omega)]
    rfl
  | succ d ih =>
    intro k n hn hk
    obtain ⟨k, rfl⟩ : ∃ r, k = r + 1 := ⟨k - 1, by omega⟩
    have e : wrap64 ((n : Int) + 1) = ((n + 1 : Nat) : Int) := by rw [w_ _ (by omega) (by omega)]; omega
    have r := ih k (n + 1) (by omega) (by omega)
    have hl := rr_length p n
    simp only [impl_spansOf.l0]
    rw [if_pos (by omega), e, Option.bind_some]
    rw [rr_succ] at r
    by_cases c : p (n : Int) = true
    · rw [if_pos c] at r ⊢
      clear ih c
      generalize RR p n = R at *
      cases R with
      | nil =>
        simp only [put, List.reverse_cons, List.reverse_nil, List.nil_append] at r
        rw [w_ _ (by simp) (by simp)]
        rw [if_neg (by simp), if_pos (by simp)]
        simp only [List.reverse_nil, List.nil_append]
        rw [show ((n + 1 : Nat) : Int) = (n : Int) + 1 by omega] at r ⊢
        exact r
      | cons s t =>
        simp only [List.length_cons] at hl
        have hL : (((s :: t).reverse).length : Int) = (t.length : Int) + 1 := by simp
        have hw : wrap64 ((((s :: t).reverse).length : Int) - 1) = (t.length : Int) := by rw [w_ _ (by omega) (by omega)]; omega
        rw [hw, if_pos (by omega), if_pos (by omega), if_pos (by omega), last_rd, last_set, app_rev]
        rw [put_cons] at r
        by_cases g : s.f1 = (n : Int)
        · rw [if_pos g] at r ⊢
          rw [g, e, show ((n + 1 : Nat) : Int) = (n : Int) + 1 by omega] at *
          exact r
        · rw [if_neg g] at r ⊢
          rw [if_pos (by omega)]
          rw [show ((n + 1 : Nat) : Int) = (n : Int) + 1 by omega] at r ⊢
          exact r
    · rw [if_neg c] at r ⊢
      exact r
theorem is_ (p : Int → Bool) (k : Nat) (hk : 1440 < k) : impl_spansOf.f p k = some (RU p) :=
  is_loop p 1440 k 0 (by omega) hk

/-! ### kruns -/
theorem ki_loop (l : List S29) (hl : l.length ≤ 1048576) (m : Int) : ∀ (d k j : Nat), j + d = l.length → d < k → spec_l4In.l0 k l m (j : Int) = some (spAny (l.drop j) m)
  | 0, k, j, hj, hk => by
    obtain ⟨k, rfl⟩ : ∃ r, k = r + 1 := ⟨k - 1, by omega⟩
    obtain rfl : j = l.length := by omega
    simp only [spec_l4In.l0]
    rw [if_neg (by omega)]
    simp [spAny]
  | d + 1, k, j, hj, hk => by
    obtain ⟨k, rfl⟩ : ∃ r, k = r + 1 := ⟨k - 1, by omega⟩
    have e : wrap64 ((j : Int) + 1) = ((j + 1 : Nat) : Int) := by rw [w_ _ (by omega) (by omega)]; omega
    simp only [spec_l4In.l0]
    rw [if_pos (by omega), if_pos (by omega), rd_sp l j (by omega), e, List.drop_eq_getElem_cons (by omega), any_cons, ki_loop l hl m d k (j + 1) (by omega) (by omega)]
    generalize l[j] = s
    unfold spHas
    by_cases a : s.f0 ≤ m
    · by_cases b : m < s.f1
      · simp [a, b]
      · simp [a, b]
    · simp [a]
theorem ki_ (l : List S29) (hl : l.length ≤ 1048576) (m : Int) (k : Nat) (hk : l.length < k) : spec_l4In.f k l m = some (spAny l m) :=
  ki_loop l hl m l.length k 0 (by omega) hk
/-- The minutes of a time that are in some span, or in none. -/
def QM (l : List S29) (a b : Int) (z : Bool) (m : Int) : Bool := decide (a ≤ m) && decide (m < b) && (spAny l m == z)
theorem kr_loop (l : List S29) (hl : l.length ≤ 1048576) (a b : Int) (z : Bool) (ha : 0 ≤ a) (hb : b ≤ 1440) (d : Nat) : ∀ (k n : Nat), a ≤ (n : Int) → (n : Int) + d = b → l.length + d < k →
    spec_l4Runs.l0 k l z (RR (QM l a b z) n).reverse (n : Int) a b = some (RU (QM l a b z)) := by
  induction d with
  | zero =>
    intro k n h0 hn hk
    obtain ⟨k, rfl⟩ : ∃ r, k = r + 1 := ⟨k - 1, by omega⟩
    simp only [spec_l4Runs.l0]
    rw [if_neg (by omega)]
    unfold RU
    rw [show (1440 : Nat) = n + (1440 - n) by omega, rr_stay]
    intro m hm
    unfold QM
    rw [decide_eq_false (show ¬ m < b by omega)]
    simp
  | succ d ih =>
    intro k n h0 hn hk
    obtain ⟨k, rfl⟩ : ∃ r, k = r + 1 := ⟨k - 1, by omega⟩
    have e : wrap64 ((n : Int) + 1) = ((n + 1 : Nat) : Int) := by rw [w_ _ (by omega) (by omega)]; omega
    have r := ih k (n + 1) (by omega) (by omega) (by omega)
    have hlen := rr_length (QM l a b z) n
    simp only [spec_l4Runs.l0]
    rw [if_pos (by omega), e, ki_ l hl _ k (by omega), Option.bind_some]
    rw [rr_succ] at r
    have hq : QM l a b z (n : Int) = (spAny l (n : Int) == z) := by
      unfold QM
      rw [decide_eq_true h0, decide_eq_true (show (n : Int) < b by omega), Bool.true_and, Bool.true_and]
    rw [hq] at r
    by_cases c : (spAny l (n : Int) == z) = true
    · rw [if_pos c] at r ⊢
      clear ih c hq
      generalize RR (QM l a b z) n = R at *
      cases R with
      | nil =>
        simp only [put, List.reverse_cons, List.reverse_nil, List.nil_append] at r
        rw [if_neg (by simp), if_pos (by simp)]
        simp only [List.reverse_nil, List.nil_append]
        rw [show ((n + 1 : Nat) : Int) = (n : Int) + 1 by omega] at r ⊢
        exact r
      | cons s t =>
        simp only [List.length_cons] at hlen
        have hL : (((s :: t).reverse).length : Int) = (t.length : Int) + 1 := by simp
        have hw : wrap64 ((((s :: t).reverse).length : Int) - 1) = (t.length : Int) := by rw [w_ _ (by omega) (by omega)]; omega
        rw [hw, if_pos (by omega), if_pos (by omega), if_pos (by omega), last_rd, last_set, app_rev]
        rw [put_cons] at r
        by_cases g : s.f1 = (n : Int)
        · rw [if_pos g] at r ⊢
          rw [show ((n + 1 : Nat) : Int) = (n : Int) + 1 by omega] at *
          exact r
        · rw [if_neg g] at r ⊢
          rw [if_pos (by omega)]
          rw [show ((n + 1 : Nat) : Int) = (n : Int) + 1 by omega] at r ⊢
          exact r
    · rw [if_neg c] at r ⊢
      exact r
theorem kr_ (l : List S29) (hl : l.length ≤ 1048576) (a b : Int) (z : Bool) (ha : 0 ≤ a) (hab : a ≤ b) (hb : b ≤ 1440) (k : Nat) (hk : l.length + 1440 < k) : spec_l4Runs.f k l a b z = some (RU (QM l a b z)) := by
  have h := kr_loop l hl a b z ha hb (b - a).toNat k a.toNat (by omega) (by omega) (by omega)
  have e : ((a.toNat : Nat) : Int) = a := by omega
  rw [rr_none (QM l a b z) a.toNat fun m h0 h1 => by unfold QM; rw [decide_eq_false (show ¬ a ≤ m by omega)]; simp, e] at h
  exact h

/-! ### spf -/
/-- The free spans. -/
def SF (l : List S29) (a b : Int) : List S29 := if SV l = true ∧ okS ⟨a, b⟩ = true then RU (QM l a b false) else []
theorem sf_len (l : List S29) (a b : Int) : (SF l a b).length ≤ 1440 := by
  unfold SF
  split
  · exact ru_len _
  · simp
theorem i_spf (l : List S29) (hl : l.length ≤ 1048576) (a b : Int) (k : Nat) (hk : l.length + 1440 < k) : impl_SpansFree.f k l a b = some (SF l a b) := by
  unfold impl_SpansFree.f SF
  rw [i_sv l hl k (by omega), Option.bind_some]
  by_cases c : SV l = true
  · rw [if_pos c, show impl_spanValid.f a b = some (okS ⟨a, b⟩) from i_min a b, Option.bind_some]
    by_cases g : okS ⟨a, b⟩ = true
    · rw [if_pos g, if_pos (show SV l = true ∧ okS ⟨a, b⟩ = true from ⟨c, g⟩), is_ _ k (by omega)]
      congr 1
      refine ru_congr _ _ fun m h0 h1 => ?_
      unfold QM spHas
      cases spAny l m <;> simp
    · rw [if_neg g, if_neg (show ¬ (SV l = true ∧ okS ⟨a, b⟩ = true) from fun h => g h.2)]
  · rw [if_neg c, if_neg (show ¬ (SV l = true ∧ okS ⟨a, b⟩ = true) from fun h => c h.1)]
theorem k_spf (l : List S29) (hl : l.length ≤ 1048576) (a b : Int) (k : Nat) (hk : l.length + 1440 < k) : spec_SpansFree.f k l a b = some (SF l a b) := by
  unfold spec_SpansFree.f SF
  rw [k_sv l hl k (by omega), Option.bind_some]
  by_cases c : SV l = true
  · rw [if_pos c, show spec_l4Span.f a b = some (okS ⟨a, b⟩) from k_min a b, Option.bind_some]
    by_cases g : okS ⟨a, b⟩ = true
    · have g' : (0 ≤ a ∧ a ≤ 1439) ∧ (a + 1 ≤ b ∧ b ≤ 1440) := of_decide_eq_true g
      rw [if_pos g, if_pos (show SV l = true ∧ okS ⟨a, b⟩ = true from ⟨c, g⟩), kr_ l hl a b false (by omega) (by omega) (by omega) k hk, Option.bind_some]
    · rw [if_neg g, if_neg (show ¬ (SV l = true ∧ okS ⟨a, b⟩ = true) from fun h => g h.2)]
  · rw [if_neg c, if_neg (show ¬ (SV l = true ∧ okS ⟨a, b⟩ = true) from fun h => c h.1)]

theorem FnExactSpansFree (l : List S32) (hl : l.length ≤ maxLen) (a b : Int) : ∃ k, laws_FnExactSpansFree.f k l a b = some true := by
  by_cases c : l.length ≤ 1048576
  · refine ⟨l.length + 1442, ?_⟩
    have hj := sf_len (l.map cv_span) a b
    have tl : (l.map cv_span).length ≤ 1048576 := by simpa using c
    have tl' : (l.map cv_span).length = l.length := by simp
    unfold laws_FnExactSpansFree.f
    rw [sz_span l hl, if_pos c]
    rw [Option.bind_some, if_neg (by omega), to_span l c _ (by omega)]
    simp only [laws_toSpan.f, Option.bind_some]
    rw [k_spf _ tl _ _ _ (by omega), i_spf _ tl _ _ _ (by omega)]
    simp only [Option.bind_some]
    rw [eq_span _ (by omega) _ (by omega), eq_span _ tl _ (by omega)]
    simp only [Option.bind_some, if_true]
    rw [mark_span _ tl _ (by omega)]
    simp only [Option.bind_some]
    rw [if_neg (by omega)]
    show laws_FnExactSpansFree.j0 ((l.length + 1441) + 1) _ _ _ _ _ _ = _
    simp only [laws_FnExactSpansFree.j0]
    rw [if_neg (by simp), mark_span _ (by omega) _ (by omega)]
    rw [Option.bind_some, held_span _ (by omega) _ (by omega)]
    rw [Option.bind_some, if_neg (by omega), if_pos rfl, to_span l c _ (by omega)]
    simp only [laws_toSpan.f, Option.bind_some]
    rw [i_spf _ tl _ _ _ (by omega)]
    rw [Option.bind_some, eq_span _ (by omega) _ (by omega)]
    rw [Option.bind_some, if_pos rfl, if_neg (by omega)]
    simp
  · refine ⟨1, ?_⟩
    unfold laws_FnExactSpansFree.f
    rw [sz_span l hl, if_neg c]
    simp

end Go.Proofs.Ytphjimjcfpnkmaa.Pure
