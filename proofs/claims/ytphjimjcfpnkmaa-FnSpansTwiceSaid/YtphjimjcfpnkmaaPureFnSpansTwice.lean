/- FnSpansTwice answers true at every list of bytes. -/
import Derived.Test.YtphjimjcfpnkmaaQFnSpansTwice
import Derived.Laws.BitsLemmas
namespace Go.Proofs.Ytphjimjcfpnkmaa.Pure
open Go.RowKit Go.Proofs.Ytphjimjcfpnkmaa.PFnSpansTwice Go.Proofs.YtphjimjcfpnkmaaW.PrintWords Go.Proofs.YtphjimjcfpnkmaaW.PrintLast
set_option linter.unusedSimpArgs false
set_option linter.unusedVariables false

/-! ### core -/
theorem k_in (a b c : Int) : spec_l6In.f a b c = some (decide (b ≤ a ∧ a ≤ c)) := by
  unfold spec_l6In.f
  by_cases h : b ≤ a <;> simp [h]
theorem i_in (a b c : Int) : impl_within.f a b c = some (decide (b ≤ a ∧ a ≤ c)) := by
  unfold impl_within.f
  by_cases h : b ≤ a <;> simp [h]
theorem w_ (n : Int) (h : -9223372036854775808 ≤ n) (h' : n ≤ 9223372036854775807) : wrap64 n = n := by unfold wrap64; omega
theorem div_low (a b : Int) (hb : 0 < b) : (a / b) * b ≤ a := Int.ediv_mul_le a (by omega)
theorem div_high (a b : Int) (hb : 0 < b) : a < (a / b) * b + b := by
  have h := Int.lt_ediv_add_one_mul_self a hb
  rw [Int.add_mul] at h
  omega
theorem div_is (a b q : Int) (hb : 0 < b) (h1 : q * b ≤ a) (h2 : a < q * b + b) : a / b = q := by
  have h3 := Int.le_ediv_of_mul_le hb h1
  have h4 : a / b < q + 1 := Int.ediv_lt_of_lt_mul hb (by rw [Int.add_mul]; omega)
  omega

/-! ### runs -/
/-- One minute more; the last run lies in front. -/
def put : List S29 → Int → List S29
  | [], m => [⟨m, m + 1⟩]
  | s :: t, m => if s.f1 = m then ⟨s.f0, m + 1⟩ :: t else ⟨m, m + 1⟩ :: s :: t
/-- The runs of the minutes before n, the last in front. -/
def RR (p : Int → Bool) : Nat → List S29
  | 0 => []
  | n + 1 => if p (n : Int) = true then put (RR p n) (n : Int) else RR p n
/-- The runs of all minutes. -/
def RU (p : Int → Bool) : List S29 := (RR p 1440).reverse
theorem put_cons (s : S29) (t : List S29) (m : Int) : put (s :: t) m = if s.f1 = m then ⟨s.f0, m + 1⟩ :: t else ⟨m, m + 1⟩ :: s :: t := rfl
theorem rr_succ (p : Int → Bool) (n : Nat) : RR p (n + 1) = if p (n : Int) = true then put (RR p n) (n : Int) else RR p n := rfl
theorem put_length (r : List S29) (m : Int) : (put r m).length ≤ r.length + 1 := by
  cases r with
  | nil => simp [put]
  | cons s t => rw [put_cons]; split <;> simp
theorem rr_length (p : Int → Bool) (n : Nat) : (RR p n).length ≤ n := by
  induction n with
  | zero => simp [RR]
  | succ n ih =>
    rw [rr_succ]
    split
    · have := put_length (RR p n) (n : Int); omega
    · omega
theorem rr_congr (p q : Int → Bool) (n : Nat) (h : ∀ m : Int, 0 ≤ m → m < (n : Int) → p m = q m) : RR p n = RR q n := by
  induction n with
  | zero => rfl
  | succ n ih =>
    rw [rr_succ]
    rw [rr_succ, h (n : Int) (by omega) (by omega), ih fun m h0 h1 => h m h0 (by omega)]
theorem ru_congr (p q : Int → Bool) (h : ∀ m : Int, 0 ≤ m → m < 1440 → p m = q m) : RU p = RU q := by
  unfold RU
  rw [rr_congr p q 1440 h]
theorem rr_none (p : Int → Bool) (n : Nat) (h : ∀ m : Int, 0 ≤ m → m < (n : Int) → p m = false) : RR p n = [] := by
  induction n with
  | zero => rfl
  | succ n ih =>
    rw [rr_succ]
    rw [h (n : Int) (by omega) (by omega), if_neg (by decide)]
    exact ih fun m h0 h1 => h m h0 (by omega)
theorem rr_stay (p : Int → Bool) (n d : Nat) (h : ∀ m : Int, (n : Int) ≤ m → p m = false) : RR p (n + d) = RR p n := by
  induction d with
  | zero => rfl
  | succ d ih =>
    rw [show n + (d + 1) = (n + d) + 1 by omega]
    rw [rr_succ]
    rw [h ((n + d : Nat) : Int) (by omega), if_neg (by decide)]
    exact ih
theorem any_mem (r : List S29) (m : Int) : spAny r m = true ↔ ∃ s ∈ r, s.f0 ≤ m ∧ m < s.f1 := by
  unfold spAny spHas
  simp
theorem any_cons (s : S29) (t : List S29) (m : Int) : spAny (s :: t) m = (spHas s m || spAny t m) := rfl
theorem any_rev (r : List S29) (m : Int) : spAny r.reverse m = spAny r m := by
  unfold spAny
  rw [List.any_reverse]
/-- What holds of the runs of the minutes before n. -/
def Inv (p : Int → Bool) (n : Nat) (r : List S29) : Prop :=
  (∀ s ∈ r, 0 ≤ s.f0 ∧ s.f0 < s.f1 ∧ s.f1 ≤ (n : Int)) ∧ r.Pairwise (fun a b => b.f1 < a.f0) ∧ (∀ s ∈ r, s.f1 < (n : Int) → p s.f1 = false) ∧
  (∀ s ∈ r, p s.f0 = true ∧ (s.f0 = 0 ∨ p (s.f0 - 1) = false)) ∧ (∀ m : Int, spAny r m = (decide (0 ≤ m) && decide (m < (n : Int)) && p m))
theorem inv_skip (p : Int → Bool) (n : Nat) (r : List S29) (h : Inv p n r) (hp : p (n : Int) = false) : Inv p (n + 1) r := by
  obtain ⟨h1, h2, h3, h4, h5⟩ := h
  refine ⟨fun s hs => by have := h1 s hs; omega, h2, fun s hs hlt => ?_, h4, fun m => ?_⟩
  · by_cases e : s.f1 = (n : Int)
    · rw [e]; exact hp
    · exact h3 s hs (by have := h1 s hs; omega)
  · rw [h5 m]
    by_cases e : m = (n : Int)
    · subst e; simp [hp]
    · rw [show decide (m < ((n + 1 : Nat) : Int)) = decide (m < (n : Int)) by apply decide_eq_decide.mpr; omega]
theorem inv_put (p : Int → Bool) (n : Nat) (r : List S29) (h : Inv p n r) (hp : p (n : Int) = true) : Inv p (n + 1) (put r (n : Int)) := by
  obtain ⟨h1, h2, h3, h4, h5⟩ := h
  have hlast : ∀ s t, r = s :: t → ∀ x ∈ t, x.f1 < s.f0 := fun s t e x hx => by
    rw [e] at h2
    exact (List.pairwise_cons.mp h2).1 x hx
  have hm : ∀ m : Int, (decide (0 ≤ m) && decide (m < ((n + 1 : Nat) : Int)) && p m) = (decide (m = (n : Int)) || (decide (0 ≤ m) && decide (m < (n : Int)) && p m)) := fun m => by
    by_cases e : m = (n : Int)
    · subst e; simp [hp]; omega
    · rw [show decide (m < ((n + 1 : Nat) : Int)) = decide (m < (n : Int)) by apply decide_eq_decide.mpr; omega, decide_eq_false e, Bool.false_or]
  have hnew : (∀ s ∈ r, s.f1 < (n : Int)) → ((n : Int) = 0 ∨ p ((n : Int) - 1) = false) := fun hr => by
    by_cases e : n = 0
    · left; omega
    · right
      have := h5 ((n : Int) - 1)
      rw [decide_eq_true (show (0 : Int) ≤ (n : Int) - 1 by omega), decide_eq_true (show (n : Int) - 1 < (n : Int) by omega), Bool.true_and, Bool.true_and] at this
      rw [← this]
      by_cases g : spAny r ((n : Int) - 1) = true
      · obtain ⟨s, hs, a, b⟩ := (any_mem r _).1 g
        have := hr s hs
        omega
      · exact Bool.eq_false_iff.mpr g
  match r, h1, h2, h3, h4, h5, hlast, hnew with
  | [], h1, h2, h3, h4, h5, hlast, hnew =>
    refine ⟨fun s hs => ?_, List.pairwise_singleton _ _, fun s hs hlt => ?_, fun s hs => ?_, fun m => ?_⟩
    · obtain rfl := List.mem_singleton.mp hs; simp; omega
    · obtain rfl := List.mem_singleton.mp hs; simp at hlt
    · obtain rfl := List.mem_singleton.mp hs; exact ⟨hp, hnew fun s hs => by simp at hs⟩
    · rw [hm m, ← h5 m]
      simp only [put, any_cons, spHas, spAny, List.any_nil, Bool.or_false]
      rw [Bool.eq_iff_iff]; simp; omega
  | s :: t, h1, h2, h3, h4, h5, hlast, hnew =>
    have hl := hlast s t rfl
    have hs1 := h1 s (List.mem_cons_self ..)
    rw [put_cons]
    by_cases c : s.f1 = (n : Int)
    · rw [if_pos c]
      refine ⟨fun x hx => ?_, List.pairwise_cons.mpr ⟨fun x hx => hl x hx, (List.pairwise_cons.mp h2).2⟩, fun x hx hlt => ?_, fun x hx => ?_, fun m => ?_⟩
      · rcases List.mem_cons.mp hx with rfl | hx
        · simp only; omega
        · have := h1 x (List.mem_cons_of_mem _ hx); omega
      · rcases List.mem_cons.mp hx with rfl | hx
        · simp at hlt
        · have := hl x hx
          exact h3 x (List.mem_cons_of_mem _ hx) (by omega)
      · rcases List.mem_cons.mp hx with rfl | hx
        · exact h4 s (List.mem_cons_self ..)
        · exact h4 x (List.mem_cons_of_mem _ hx)
      · rw [hm m, ← h5 m, any_cons, any_cons, ← Bool.or_assoc]
        congr 1
        unfold spHas
        rw [Bool.eq_iff_iff]; simp; omega
    · rw [if_neg c]
      have hall : ∀ x ∈ s :: t, x.f1 < (n : Int) := fun x hx => by
        rcases List.mem_cons.mp hx with rfl | hx
        · omega
        · have := hl x hx; omega
      refine ⟨fun x hx => ?_, List.pairwise_cons.mpr ⟨fun x hx => hall x hx, h2⟩, fun x hx hlt => ?_, fun x hx => ?_, fun m => ?_⟩
      · rcases List.mem_cons.mp hx with rfl | hx
        · simp; omega
        · have := h1 x hx; omega
      · rcases List.mem_cons.mp hx with rfl | hx
        · simp at hlt
        · exact h3 x hx (hall x hx)
      · rcases List.mem_cons.mp hx with rfl | hx
        · exact ⟨hp, hnew hall⟩
        · exact h4 x hx
      · rw [hm m, ← h5 m, any_cons (⟨_, _⟩)]
        congr 1
        unfold spHas
        rw [Bool.eq_iff_iff]; simp; omega
theorem rr_inv (p : Int → Bool) (n : Nat) : Inv p n (RR p n) := by
  induction n with
  | zero =>
    refine ⟨fun s hs => by simp [RR] at hs, List.Pairwise.nil, fun s hs => by simp [RR] at hs, fun s hs => by simp [RR] at hs, fun m => ?_⟩
    simp only [RR, spAny, List.any_nil]
    symm
    rw [Bool.eq_false_iff]; simp; omega
  | succ n ih =>
    rw [rr_succ]
    split
    · exact inv_put p n _ ih (by assumption)
    · exact inv_skip p n _ ih (Bool.eq_false_iff.mpr (by assumption))
theorem fewer (r : List S29) (h : r.Pairwise (fun a b => b.f0 < a.f0)) : ∀ (L : List Int), (∀ s ∈ r, s.f0 ∈ L) → r.length ≤ L.length := by
  induction r with
  | nil => intro L _; simp
  | cons s t ih =>
    intro L hL
    have hs := hL s (List.mem_cons_self ..)
    have hp := List.pairwise_cons.mp h
    have := ih hp.2 (L.erase s.f0) fun x hx => (List.mem_erase_of_ne (by have := hp.1 x hx; omega)).mpr (hL x (List.mem_cons_of_mem _ hx))
    rw [List.length_erase_of_mem hs] at this
    have hpos : 0 < L.length := List.length_pos_of_mem hs
    simp; omega
theorem ru_few (p : Int → Bool) (L : List Int) (h : ∀ m : Int, 0 ≤ m → m < 1440 → p m = true → (m = 0 ∨ p (m - 1) = false) → m ∈ L) : (RU p).length ≤ L.length := by
  obtain ⟨h1, h2, h3, h4, h5⟩ := rr_inv p 1440
  unfold RU
  rw [List.length_reverse]
  refine fewer _ (List.Pairwise.imp_of_mem (fun {a b} ha hb hab => by have := h1 b hb; omega) h2) L fun s hs => ?_
  have a := h1 s hs
  have b := h4 s hs
  exact h s.f0 (by omega) (by omega) b.1 b.2
theorem ru_any (p : Int → Bool) (m : Int) (h0 : 0 ≤ m) (h1 : m < 1440) : spAny (RU p) m = p m := by
  have := (rr_inv p 1440).2.2.2.2 m
  unfold RU
  rw [any_rev, this, decide_eq_true h0, decide_eq_true (show m < ((1440 : Nat) : Int) by omega), Bool.true_and, Bool.true_and]
theorem ru_mem (p : Int → Bool) (s : S29) (hs : s ∈ RU p) : 0 ≤ s.f0 ∧ s.f0 < s.f1 ∧ s.f1 ≤ 1440 ∧ (s.f1 < 1440 → p s.f1 = false) := by
  obtain ⟨h1, h2, h3, h4, h5⟩ := rr_inv p 1440
  have hs' : s ∈ RR p 1440 := List.mem_reverse.mp hs
  have a := h1 s hs'
  exact ⟨a.1, a.2.1, a.2.2, fun h => h3 s hs' h⟩
theorem ru_gap (p : Int → Bool) : (RU p).Pairwise (fun a b => a.f1 < b.f0) := by
  unfold RU
  rw [List.pairwise_reverse]
  exact (rr_inv p 1440).2.1
theorem ru_len (p : Int → Bool) : (RU p).length ≤ 1440 := by
  unfold RU
  rw [List.length_reverse]
  exact rr_length p 1440
/-! Reads and writes at the last run. -/
theorem last_rd (s : S29) (t : List S29) : rd_T29 (s :: t).reverse (t.length : Int) = s := by
  unfold rd_T29
  rw [List.reverse_cons, List.getD_eq_getElem?_getD, Int.toNat_natCast, List.getElem?_append_right (by simp)]
  simp
theorem last_set (s v : S29) (t : List S29) : (s :: t).reverse.set ((t.length : Int)).toNat v = (v :: t).reverse := by
  rw [List.reverse_cons, List.reverse_cons, Int.toNat_natCast, List.set_append_right _ _ (by simp), List.length_reverse, Nat.sub_self, List.set_cons_zero]
theorem app_rev (r : List S29) (v : S29) : r.reverse ++ [v] = (v :: r).reverse := (List.reverse_cons ..).symm

/-! ### sval -/
theorem k_min (a : Int) (b : Int) : spec_l4Span.f a b = some (decide ((0 ≤ a ∧ a ≤ 1439) ∧ (a + 1 ≤ b ∧ b ≤ 1440))) := by
  unfold spec_l4Span.f
  rw [k_in]
  by_cases h : 0 ≤ a ∧ a ≤ 1439
  · rw [w_ (a + 1) (by omega) (by omega), k_in]
    simp [h]
  · simp [h]
theorem i_min (a : Int) (b : Int) : impl_spanValid.f a b = some (decide ((0 ≤ a ∧ a ≤ 1439) ∧ (a + 1 ≤ b ∧ b ≤ 1440))) := by
  unfold impl_spanValid.f impl_isMinute.f
  rw [i_in]
  by_cases h : 0 ≤ a ∧ a ≤ 1439
  · rw [w_ (a + 1) (by omega) (by omega), i_in]
    simp [h]
  · simp [h]
/-- A span is valid. -/
def okS (s : S29) : Bool := decide ((0 ≤ s.f0 ∧ s.f0 ≤ 1439) ∧ (s.f0 + 1 ≤ s.f1 ∧ s.f1 ≤ 1440))
/-- Spans are valid. -/
def SV (l : List S29) : Bool := l.all okS && decide ((l.length : Int) ≤ 10)
theorem rd_sp (l : List S29) (j : Nat) (h : j < l.length) : rd_T29 l (j : Int) = l[j] := by
  simp [rd_T29, h]
theorem all_drop (l : List S29) (p : S29 → Bool) (j : Nat) (h : j < l.length) : (l.drop j).all p = (p l[j] && (l.drop (j + 1)).all p) := by
  rw [List.drop_eq_getElem_cons h, List.all_cons]
theorem ksv_loop (l : List S29) (hl : l.length ≤ 1048576) : ∀ (d k j : Nat), j + d = l.length → d < k →
    spec_SpansValid.l0 k l (j : Int) = some ((l.drop j).all okS && decide ((l.length : Int) ≤ 10))
  | 0, k, j, hj, hk => by
    obtain ⟨k, rfl⟩ : ∃ r, k = r + 1 := ⟨k - 1, by omega⟩
    obtain rfl : j = l.length := by omega
    simp only [spec_SpansValid.l0]
    rw [if_neg (by omega)]
    simp
  | d + 1, k, j, hj, hk => by
    obtain ⟨k, rfl⟩ : ∃ r, k = r + 1 := ⟨k - 1, by omega⟩
    have e : wrap64 ((j : Int) + 1) = ((j + 1 : Nat) : Int) := by rw [w_ _ (by omega) (by omega)]; omega
    simp only [spec_SpansValid.l0]
    rw [if_pos (by omega), if_pos (by omega), rd_sp l j (by omega), k_min, e, all_drop l okS j (by omega)]
    simp only [Option.bind_some]
    by_cases c : okS l[j] = true
    · rw [c, show decide _ = true from c, if_pos rfl, Bool.true_and]
      exact ksv_loop l hl d k (j + 1) (by omega) (by omega)
    · have c' := Bool.eq_false_iff.mpr c
      rw [c', show decide _ = false from c']
      simp
theorem isv_loop (l : List S29) (hl : l.length ≤ 1048576) : ∀ (d k j : Nat), j + d = l.length → d < k →
    impl_SpansValid.l0 k l l (l.length : Int) (j : Int) = some ((l.drop j).all okS && decide ((l.length : Int) ≤ 10))
  | 0, k, j, hj, hk => by
    obtain ⟨k, rfl⟩ : ∃ r, k = r + 1 := ⟨k - 1, by omega⟩
    obtain rfl : j = l.length := by omega
    simp only [impl_SpansValid.l0]
    rw [if_neg (by omega)]
    simp
  | d + 1, k, j, hj, hk => by
    obtain ⟨k, rfl⟩ : ∃ r, k = r + 1 := ⟨k - 1, by omega⟩
    have e : wrap64 ((j : Int) + 1) = ((j + 1 : Nat) : Int) := by rw [w_ _ (by omega) (by omega)]; omega
    simp only [impl_SpansValid.l0]
    rw [if_pos (by omega), if_pos (by omega), if_pos (by omega), rd_sp l j (by omega), i_min, e, all_drop l okS j (by omega)]
    simp only [Option.bind_some]
    by_cases c : okS l[j] = true
    · rw [c, show decide _ = true from c, if_pos rfl, Bool.true_and]
      exact isv_loop l hl d k (j + 1) (by omega) (by omega)
    · have c' := Bool.eq_false_iff.mpr c
      rw [c', show decide _ = false from c']
      simp
theorem k_sv (l : List S29) (hl : l.length ≤ 1048576) (k : Nat) (hk : l.length < k) : spec_SpansValid.f k l = some (SV l) :=
  ksv_loop l hl l.length k 0 (by omega) hk
theorem i_sv (l : List S29) (hl : l.length ≤ 1048576) (k : Nat) (hk : l.length < k) : impl_SpansValid.f k l = some (SV l) :=
  isv_loop l hl l.length k 0 (by omega) hk

/-! ### iruns -/
theorem is_loop (p : Int → Bool) (d : Nat) : ∀ (k n : Nat), n + d = 1440 → d < k → impl_spansOf.l0 p k (RR p n).reverse (n : Int) = some (RU p) := by
  induction d with
  | zero =>
    intro k n hn hk
    obtain ⟨k, rfl⟩ : ∃ r, k = r + 1 := ⟨k - 1, by omega⟩
    obtain rfl : n = 1440 := by omega
    simp only [impl_spansOf.l0]
    rw [if_neg (by omega)]
    rfl
  | succ d ih =>
    intro k n hn hk
    obtain ⟨k, rfl⟩ : ∃ r, k = r + 1 := ⟨k - 1, by omega⟩
    have e : wrap64 ((n : Int) + 1) = ((n + 1 : Nat) : Int) := by rw [w_ _ (by omega) (by omega)]; omega
    have r := ih k (n + 1) (by omega) (by omega)
    have hl := rr_length p n
    simp only [impl_spansOf.l0]
    rw [if_pos (by omega), e, Option.bind_some]
    rw [rr_succ] at r
    by_cases c : p (n : Int) = true
    · rw [if_pos c] at r ⊢
      clear ih c
      generalize RR p n = R at *
      cases R with
      | nil =>
        simp only [put, List.reverse_cons, List.reverse_nil, List.nil_append] at r
        rw [w_ _ (by simp) (by simp)]
        rw [if_neg (by simp), if_pos (by simp)]
        simp only [List.reverse_nil, List.nil_append]
        rw [show ((n + 1 : Nat) : Int) = (n : Int) + 1 by omega] at r ⊢
        exact r
      | cons s t =>
        simp only [List.length_cons] at hl
        have hL : (((s :: t).reverse).length : Int) = (t.length : Int) + 1 := by simp
        have hw : wrap64 ((((s :: t).reverse).length : Int) - 1) = (t.length : Int) := by rw [w_ _ (by omega) (by omega)]; omega
        rw [hw, if_pos (by omega), if_pos (by omega), if_pos (by omega), last_rd, last_set, app_rev]
        rw [put_cons] at r
        by_cases g : s.f1 = (n : Int)
        · rw [if_pos g] at r ⊢
          rw [g, e, show ((n + 1 : Nat) : Int) = (n : Int) + 1 by omega] at *
          exact r
        · rw [if_neg g] at r ⊢
          rw [if_pos (by omega)]
          rw [show ((n + 1 : Nat) : Int) = (n : Int) + 1 by omega] at r ⊢
          exact r
    · rw [if_neg c] at r ⊢
      exact r
theorem is_ (p : Int → Bool) (k : Nat) (hk : 1440 < k) : impl_spansOf.f p k = some (RU p) :=
  is_loop p 1440 k 0 (by omega) hk

/-! ### spj -/
/-- The joined spans. -/
def SJ (l : List S29) : List S29 := if SV l = true then RU (spAny l) else []
theorem sj_len (l : List S29) : (SJ l).length ≤ 1440 := by
  unfold SJ
  split
  · exact ru_len _
  · simp
theorem i_spj (l : List S29) (hl : l.length ≤ 1048576) (k : Nat) (hk : l.length + 1440 < k) : impl_SpansJoin.f k l = some (SJ l) := by
  unfold impl_SpansJoin.f SJ
  rw [i_sv l hl k (by omega), Option.bind_some]
  by_cases c : SV l = true
  · rw [if_pos c, if_pos c, is_ _ k (by omega)]
  · rw [if_neg c, if_neg c]

/-! ### kruns -/
theorem ki_loop (l : List S29) (hl : l.length ≤ 1048576) (m : Int) : ∀ (d k j : Nat), j + d = l.length → d < k → spec_l4In.l0 k l m (j : Int) = some (spAny (l.drop j) m)
  | 0, k, j, hj, hk => by
    obtain ⟨k, rfl⟩ : ∃ r, k = r + 1 := ⟨k - 1, by omega⟩
    obtain rfl : j = l.length := by omega
    simp only [spec_l4In.l0]
    rw [if_neg (by omega)]
    simp [spAny]
  | d + 1, k, j, hj, hk => by
    obtain ⟨k, rfl⟩ : ∃ r, k = r + 1 := ⟨k - 1, by omega⟩
    have e : wrap64 ((j : Int) + 1) = ((j + 1 : Nat) : Int) := by rw [w_ _ (by omega) (by omega)]; omega
    simp only [spec_l4In.l0]
    rw [if_pos (by omega), if_pos (by omega), rd_sp l j (by omega), e, List.drop_eq_getElem_cons (by omega), any_cons, ki_loop l hl m d k (j + 1) (by omega) (by omega)]
    generalize l[j] = s
    unfold spHas
    by_cases a : s.f0 ≤ m
    · by_cases b : m < s.f1
      · simp [a, b]
      · simp [a, b]
    · simp [a]
theorem ki_ (l : List S29) (hl : l.length ≤ 1048576) (m : Int) (k : Nat) (hk : l.length < k) : spec_l4In.f k l m = some (spAny l m) :=
  ki_loop l hl m l.length k 0 (by omega) hk
/-- The minutes of a time that are in some span, or in none. -/
def QM (l : List S29) (a b : Int) (z : Bool) (m : Int) : Bool := decide (a ≤ m) && decide (m < b) && (spAny l m == z)
theorem kr_loop (l : List S29) (hl : l.length ≤ 1048576) (a b : Int) (z : Bool) (ha : 0 ≤ a) (hb : b ≤ 1440) (d : Nat) : ∀ (k n : Nat), a ≤ (n : Int) → (n : Int) + d = b → l.length + d < k →
    spec_l4Runs.l0 k l z (RR (QM l a b z) n).reverse (n : Int) a b = some (RU (QM l a b z)) := by
  induction d with
  | zero =>
    intro k n h0 hn hk
    obtain ⟨k, rfl⟩ : ∃ r, k = r + 1 := ⟨k - 1, by omega⟩
    simp only [spec_l4Runs.l0]
    rw [if_neg (by omega)]
    unfold RU
    rw [show (1440 : Nat) = n + (1440 - n) by omega, rr_stay]
    intro m hm
    unfold QM
    rw [decide_eq_false (show ¬ m < b by omega)]
    simp
  | succ d ih =>
    intro k n h0 hn hk
    obtain ⟨k, rfl⟩ : ∃ r, k = r + 1 := ⟨k - 1, by omega⟩
    have e : wrap64 ((n : Int) + 1) = ((n + 1 : Nat) : Int) := by rw [w_ _ (by omega) (by omega)]; omega
    have r := ih k (n + 1) (by omega) (by omega) (by omega)
    have hlen := rr_length (QM l a b z) n
    simp only [spec_l4Runs.l0]
    rw [if_pos (by omega), e, ki_ l hl _ k (by omega), Option.bind_some]
    rw [rr_succ] at r
    have hq : QM l a b z (n : Int) = (spAny l (n : Int) == z) := by
      unfold QM
      rw [decide_eq_true h0, decide_eq_true (show (n : Int) < b by omega), Bool.true_and, Bool.true_and]
    rw [hq] at r
    by_cases c : (spAny l (n : Int) == z) = true
    · rw [if_pos c] at r ⊢
      clear ih c hq
      generalize RR (QM l a b z) n = R at *
      cases R with
      | nil =>
        simp only [put, List.reverse_cons, List.reverse_nil, List.nil_append] at r
        rw [if_neg (by simp), if_pos (by simp)]
        simp only [List.reverse_nil, List.nil_append]
        rw [show ((n + 1 : Nat) : Int) = (n : Int) + 1 by omega] at r ⊢
        exact r
      | cons s t =>
        simp only [List.length_cons] at hlen
        have hL : (((s :: t).reverse).length : Int) = (t.length : Int) + 1 := by simp
        have hw : wrap64 ((((s :: t).reverse).length : Int) - 1) = (t.length : Int) := by rw [w_ _ (by omega) (by omega)]; omega
        rw [hw, if_pos (by omega), if_pos (by omega), if_pos (by omega), last_rd, last_set, app_rev]
        rw [put_cons] at r
        by_cases g : s.f1 = (n : Int)
        · rw [if_pos g] at r ⊢
          rw [show ((n + 1 : Nat) : Int) = (n : Int) + 1 by omega] at *
          exact r
        · rw [if_neg g] at r ⊢
          rw [if_pos (by omega)]
          rw [show ((n + 1 : Nat) : Int) = (n : Int) + 1 by omega] at r ⊢
          exact r
    · rw [if_neg c] at r ⊢
      exact r
theorem kr_ (l : List S29) (hl : l.length ≤ 1048576) (a b : Int) (z : Bool) (ha : 0 ≤ a) (hab : a ≤ b) (hb : b ≤ 1440) (k : Nat) (hk : l.length + 1440 < k) : spec_l4Runs.f k l a b z = some (RU (QM l a b z)) := by
  have h := kr_loop l hl a b z ha hb (b - a).toNat k a.toNat (by omega) (by omega) (by omega)
  have e : ((a.toNat : Nat) : Int) = a := by omega
  rw [rr_none (QM l a b z) a.toNat fun m h0 h1 => by unfold QM; rw [decide_eq_false (show ¬ a ≤ m by omega)]; simp, e] at h
  exact h

/-! ### kspj -/
theorem k_spj (l : List S29) (hl : l.length ≤ 1048576) (k : Nat) (hk : l.length + 1440 < k) : spec_SpansJoin.f k l = some (SJ l) := by
  unfold spec_SpansJoin.f SJ
  rw [k_sv l hl k (by omega), Option.bind_some]
  by_cases c : SV l = true
  · rw [if_pos c, if_pos c, kr_ l hl 0 1440 true (by omega) (by omega) (by omega) k hk, Option.bind_some]
    congr 1
    refine ru_congr _ _ fun m h0 h1 => ?_
    unfold QM
    rw [decide_eq_true h0, decide_eq_true h1]
    simp
  · rw [if_neg c, if_neg c]

/-! ### same -/
theorem same_loop (l : List S29) (hl : l.length ≤ 1048576) : ∀ (d k j : Nat), j + d = l.length → d < k → laws_sameSpans.l0 k l l (j : Int) = some true
  | 0, k, j, hj, hk => by
    obtain ⟨k, rfl⟩ : ∃ r, k = r + 1 := ⟨k - 1, by omega⟩
    simp only [laws_sameSpans.l0]
    rw [if_neg (by omega)]
  | d + 1, k, j, hj, hk => by
    obtain ⟨k, rfl⟩ : ∃ r, k = r + 1 := ⟨k - 1, by omega⟩
    have e : wrap64 ((j : Int) + 1) = ((j + 1 : Nat) : Int) := by rw [w_ _ (by omega) (by omega)]; omega
    simp only [laws_sameSpans.l0, beq_self_eq_true, Bool.not_true, Bool.or_false]
    rw [if_pos (by omega), if_pos (by omega), if_pos (by omega), if_neg (by simp), e]
    exact same_loop l hl d k (j + 1) (by omega) (by omega)
theorem same_ (l : List S29) (hl : l.length ≤ 1048576) (k : Nat) (hk : l.length < k) : laws_sameSpans.f k l l = some true := by
  unfold laws_sameSpans.f
  rw [if_pos rfl]
  exact same_loop l hl l.length k 0 (by omega) hk

/-! ### spfacts -/
theorem sv_iff (l : List S29) : SV l = true ↔ (∀ s ∈ l, 0 ≤ s.f0 ∧ s.f0 < s.f1 ∧ s.f1 ≤ 1440) ∧ l.length ≤ 10 := by
  unfold SV
  rw [Bool.and_eq_true, List.all_eq_true, decide_eq_true_eq]
  constructor
  · rintro ⟨h, n⟩
    refine ⟨fun s hs => ?_, by omega⟩
    have := of_decide_eq_true (h s hs)
    omega
  · rintro ⟨h, n⟩
    refine ⟨fun s hs => ?_, by omega⟩
    have := h s hs
    exact decide_eq_true (by omega)
theorem ru_sv (p : Int → Bool) (h : (RU p).length ≤ 10) : SV (RU p) = true :=
  (sv_iff _).2 ⟨fun s hs => by have := ru_mem p s hs; omega, h⟩
theorem any_no (l : List S29) (m : Int) (h : spAny l m = false) (s : S29) (hs : s ∈ l) : ¬ (s.f0 ≤ m ∧ m < s.f1) := fun g => by
  have := (any_mem l m).2 ⟨s, hs, g⟩
  rw [h] at this
  cases this
theorem join_few (l : List S29) (h : SV l = true) : (RU (spAny l)).length ≤ l.length := by
  have v := ((sv_iff l).1 h).1
  have := ru_few (spAny l) (l.map fun s => s.f0) fun m h0 h1 hp hb => by
    obtain ⟨s, hs, a, b⟩ := (any_mem l m).1 hp
    have vs := v s hs
    refine List.mem_map.mpr ⟨s, hs, ?_⟩
    rcases hb with hb | hb
    · omega
    · have := any_no l _ hb s hs
      omega
  simpa using this
theorem one_sv (a b : Int) : SV [⟨a, b⟩] = okS ⟨a, b⟩ := by
  unfold SV
  simp

/-! ### pick -/
/-- What a reader of draws holds: at most 2000 bytes. -/
def Ok (s : List Int) : Prop := s.length ≤ 2000 ∧ ∀ x ∈ s, 0 ≤ x ∧ x ≤ 255
theorem rd_ok {s : List Int} (h : Ok s) (i : Int) : 0 ≤ rd s i ∧ rd s i ≤ 255 := by
  unfold rd
  rw [List.getD_eq_getElem?_getD]
  cases e : s[i.toNat]? with
  | none => simp
  | some x => simpa using h.2 x (List.mem_of_getElem? e)
theorem xor_nonneg (x y : Int) (hx : 0 ≤ x) (hx' : x < 9223372036854775808) (hy : 0 ≤ y) (hy' : y < 9223372036854775808) : 0 ≤ Go.bits .xor .i64 x y := by
  obtain ⟨a, rfl⟩ := Int.eq_ofNat_of_zero_le hx
  obtain ⟨b, rfl⟩ := Int.eq_ofNat_of_zero_le hy
  have ha : a < 2 ^ 63 := by omega
  have hb : b < 2 ^ 63 := by omega
  have hc := Nat.xor_lt_two_pow ha hb
  have e1 : a % 2 ^ IntKind.i64.bits = a := Nat.mod_eq_of_lt (Nat.lt_of_lt_of_le ha (Nat.pow_le_pow_right (by decide) (by decide)))
  have e2 : b % 2 ^ IntKind.i64.bits = b := Nat.mod_eq_of_lt (Nat.lt_of_lt_of_le hb (Nat.pow_le_pow_right (by decide) (by decide)))
  simp only [Go.bits, BitVec.ofInt_natCast, BitVec.toNat_xor, BitVec.toNat_ofNat, e1, e2]
  rw [Go.IntKind.wrap_i64]
  omega
theorem pick_ok (k : Nat) (s : List Int) (p n : Int) (hk : 1 ≤ k) (hs : Ok s) (hp : 0 ≤ p) (hp' : p ≤ 1000000) :
    ∃ r, spec_l6Rd_pick.f k s p n = some (r, p + 1) ∧ 0 ≤ r ∧ (1 ≤ n → r < n) ∧ (n < 1 → r = 0) := by
  obtain ⟨k, rfl⟩ : ∃ m, k = m + 1 := ⟨k - 1, by omega⟩
  unfold spec_l6Rd_pick.f
  have e : wrap64 (p + 1) = p + 1 := w_ _ (by omega) (by omega)
  have e' : wrap64 (p + 1 - 1) = p := by rw [w_ _ (by omega) (by omega)]; omega
  rw [e]
  by_cases hn : n < 1
  · rw [if_pos hn]
    refine ⟨0, ?_, by omega, by omega, by omega⟩
    simp [spec_l6Rd_pick.j0]
  · rw [if_neg hn]
    by_cases hl : (s.length : Int) = 0
    · rw [beq_iff_eq.mpr hl]
      refine ⟨0, ?_, by omega, by omega, by omega⟩
      simp [spec_l6Rd_pick.j0]
    · rw [beq_eq_false_iff_ne.mpr hl]
      have hl' : (s.length : Int) ≤ 2000 := by have := hs.1; omega
      simp only [spec_l6Rd_pick.j0, e']
      rw [if_neg (by simp)]
      by_cases c : p < (s.length : Int)
      · rw [if_pos c, if_pos hp, if_neg (by omega)]
        obtain ⟨r0, r1⟩ := rd_ok hs p
        rw [w_ (rd s p) (by omega) (by omega)]
        exact ⟨_, rfl, Int.tmod_nonneg _ r0, fun _ => Int.tmod_lt_of_pos _ (by omega), by omega⟩
      · have a1 := Int.tmod_nonneg (s.length : Int) hp
        have a2 := Int.tmod_lt_of_pos p (b := (s.length : Int)) (by omega)
        have a3 : wrap64 (wrap64 (p * 7) + 3) = p * 7 + 3 := by rw [w_ (p * 7) (by omega) (by omega), w_ _ (by omega) (by omega)]
        have a4 := Int.tmod_nonneg (s.length : Int) (a := p * 7 + 3) (by omega)
        have a5 := Int.tmod_lt_of_pos (p * 7 + 3) (b := (s.length : Int)) (by omega)
        rw [if_neg c, if_neg hl, if_pos a1, if_pos a2, a3, if_pos a4, if_pos a5, if_neg (by omega)]
        obtain ⟨r0, r1⟩ := rd_ok hs (Int.tmod p (s.length : Int))
        obtain ⟨q0, q1⟩ := rd_ok hs (Int.tmod (p * 7 + 3) (s.length : Int))
        generalize rd s (Int.tmod p (s.length : Int)) = A at *
        generalize rd s (Int.tmod (p * 7 + 3) (s.length : Int)) = B at *
        have d0 : 0 ≤ Int.tdiv p (s.length : Int) := Int.tdiv_nonneg hp (by omega)
        have d1 : Int.tdiv p (s.length : Int) ≤ p := by rw [Int.tdiv_eq_ediv_of_nonneg hp]; exact Int.ediv_le_self _ hp
        generalize Int.tdiv p (s.length : Int) = D at *
        simp (disch := omega) only [w_]
        have x0 : 0 ≤ A * 131 + B * 1117 + p * 29 + D * 53 := by omega
        have x1 : A * 131 + B * 1117 + p * 29 + D * 53 ≤ 100000000 := by omega
        generalize A * 131 + B * 1117 + p * 29 + D * 53 = X at *
        have y0 : 0 ≤ Int.tdiv X 64 := Int.tdiv_nonneg x0 (by omega)
        have y1 : Int.tdiv X 64 ≤ X := by rw [Int.tdiv_eq_ediv_of_nonneg x0]; exact Int.ediv_le_self _ x0
        simp (disch := omega) only [w_]
        exact ⟨_, rfl, Int.tmod_nonneg _ (xor_nonneg _ _ (by omega) (by omega) (by omega) (by omega)), fun _ => Int.tmod_lt_of_pos _ (by omega), by omega⟩
theorem open_ok (l : List Int) (h : ∀ x ∈ l, (Lit.int .u8 x).wf = true) : ∃ s, spec_l6Open.f l = some (s, 0) ∧ Ok s := by
  have b : ∀ x ∈ l, 0 ≤ x ∧ x ≤ 255 := fun x hx => by
    have := h x hx
    simp [Lit.wf, IntKind.min, IntKind.max, IntKind.bits, IntKind.signed] at this
    omega
  unfold spec_l6Open.f
  by_cases c : (l.length : Int) > 2000
  · rw [if_pos c, if_pos (by omega)]
    exact ⟨_, rfl, by rw [List.length_take]; omega, fun x hx => b x (List.mem_of_mem_take hx)⟩
  · rw [if_neg c]
    exact ⟨_, rfl, by omega, b⟩

/-! ### dspans -/
theorem dspan_ok (k : Nat) (s : List Int) (p : Int) (hk : 1 ≤ k) (hs : Ok s) (hp : 0 ≤ p) (hp' : p ≤ 900000) :
    ∃ a b q, spec_l91Span.f k s p = some (a, b, q) ∧ p ≤ q ∧ q ≤ p + 5 := by
  unfold spec_l91Span.f
  obtain ⟨r1, e1, _⟩ := pick_ok k s p 40 hk hs hp (by omega)
  obtain ⟨r2, e2, _⟩ := pick_ok k s (p + 1) 60 hk hs (by omega) (by omega)
  obtain ⟨r3, e3, _⟩ := pick_ok k s (p + 1 + 1) 24 hk hs (by omega) (by omega)
  obtain ⟨r4, e4, a4, b4, _⟩ := pick_ok k s (p + 1 + 1 + 1) 3 hk hs (by omega) (by omega)
  obtain ⟨r5, e5, a5, b5, _⟩ := pick_ok k s (p + 1 + 1 + 1 + 1) 2 hk hs (by omega) (by omega)
  have b4' := b4 (by omega)
  have b5' := b5 (by omega)
  rw [e1]; simp only [Option.bind_some]
  rw [e2]; simp only [Option.bind_some]
  rw [e3]; simp only [Option.bind_some]
  rw [e4]; simp only [Option.bind_some, List.length_cons, List.length_nil]
  rw [e5]; simp only [Option.bind_some]
  by_cases c0 : r3 = 0
  · rw [if_pos c0]
    exact ⟨_, _, _, rfl, by omega, by omega⟩
  · rw [if_neg c0]
    by_cases c1 : r3 = 1
    · rw [if_pos c1, if_pos a4, if_pos (by omega), if_pos a5, if_pos (by omega)]
      exact ⟨_, _, _, rfl, by omega, by omega⟩
    · rw [if_neg c1]
      exact ⟨_, _, _, rfl, by omega, by omega⟩
theorem dspans_loop (s : List Int) (hs : Ok s) (n : Int) (d : Nat) : ∀ (k j : Nat) (l : List S29) (p : Int), (n : Int) ≤ (j : Int) + d → j ≤ 20 → d ≤ 20 → n ≤ 12 → d + 1 < k → l.length = j → 0 ≤ p → p + 5 * d ≤ 800000 → (j : Int) ≤ max n 0 →
    ∃ L q, spec_l91Spans.l0 k l n (j : Int) s p = some (L, q) ∧ L.length ≤ 12 ∧ p ≤ q ∧ q ≤ p + 5 * d := by
  induction d with
  | zero =>
    intro k j l p hn hj hd h12 hk hl h0 hp hmax
    obtain ⟨k, rfl⟩ : ∃ r, k = r + 1 := ⟨k - 1, by omega⟩
    simp only [spec_l91Spans.l0]
    rw [if_neg (by omega)]
    exact ⟨_, _, rfl, by omega, by omega, by omega⟩
  | succ d ih =>
    intro k j l p hn hj hd h12 hk hl h0 hp hmax
    obtain ⟨k, rfl⟩ : ∃ r, k = r + 1 := ⟨k - 1, by omega⟩
    have e : wrap64 ((j : Int) + 1) = ((j + 1 : Nat) : Int) := by rw [w_ _ (by omega) (by omega)]; omega
    simp only [spec_l91Spans.l0]
    by_cases c : (j : Int) < n
    · obtain ⟨a, b, q, h, q0, q1⟩ := dspan_ok k s p (by omega) hs h0 (by omega)
      rw [if_pos c, h, e]
      simp only [Option.bind_some]
      rw [if_pos (by omega)]
      obtain ⟨L, q', h', l', q2, q3⟩ := ih k (j + 1) (l ++ [⟨a, b⟩]) q (by omega) (by omega) (by omega) h12 (by omega) (by simp; omega) (by omega) (by omega) (by omega)
      exact ⟨L, q', h', l', by omega, by omega⟩
    · rw [if_neg c]
      exact ⟨_, _, rfl, by omega, by omega, by omega⟩
theorem dspans_ok (k : Nat) (s : List Int) (p : Int) (hk : 40 ≤ k) (hs : Ok s) (hp : 0 ≤ p) (hp' : p ≤ 700000) :
    ∃ L q, spec_l91Spans.f k s p = some (L, q) ∧ L.length ≤ 12 ∧ p ≤ q ∧ q ≤ p + 103 := by
  obtain ⟨k, rfl⟩ : ∃ r, k = r + 1 := ⟨k - 1, by omega⟩
  unfold spec_l91Spans.f
  obtain ⟨r1, e1, a1, b1, _⟩ := pick_ok (k + 1) s p 7 (by omega) hs hp (by omega)
  obtain ⟨r2, e2, a2, b2, _⟩ := pick_ok (k + 1) s (p + 1) 20 (by omega) hs (by omega) (by omega)
  obtain ⟨r3, e3, a3, b3, _⟩ := pick_ok (k + 1) s (p + 1 + 1) 2 (by omega) hs (by omega) (by omega)
  have b1' := b1 (by omega)
  have b3' := b3 (by omega)
  rw [Option.bind_some, e1]; simp only [Option.bind_some]
  rw [e2]; simp only [Option.bind_some]
  rw [e3]; simp only [Option.bind_some, spec_l91Spans.j0]
  by_cases c : r2 = 0
  · rw [if_pos c, w_ _ (by omega) (by omega)]
    obtain ⟨L, q, h, hl, q0, q1⟩ := dspans_loop s hs (10 + r3) 20 k 0 [] (p + 1 + 1 + 1) (by omega) (by omega) (by omega) (by omega) (by omega) rfl (by omega) (by omega) (by omega)
    exact ⟨L, q, h, hl, by omega, by omega⟩
  · rw [if_neg c]
    obtain ⟨L, q, h, hl, q0, q1⟩ := dspans_loop s hs r1 20 k 0 [] (p + 1 + 1) (by omega) (by omega) (by omega) (by omega) (by omega) rfl (by omega) (by omega) (by omega)
    exact ⟨L, q, h, hl, by omega, by omega⟩

/-! ### dsjoin -/
theorem dsj_ok (k : Nat) (l : List Int) (hk : 40 ≤ k) (hl : ∀ x ∈ l, (Lit.int .u8 x).wf = true) : ∃ L, spec_DrawSpansJoin.f k l = some L ∧ L.length ≤ 12 := by
  unfold spec_DrawSpansJoin.f
  obtain ⟨s, es, hs⟩ := open_ok l hl
  obtain ⟨L, q, h, hL, _⟩ := dspans_ok k s 0 hk hs (by omega) (by omega)
  rw [es]; simp only [Option.bind_some]
  rw [h]
  exact ⟨_, rfl, hL⟩

theorem rot_any (l : List S29) (m : Int) : spAny (l.drop 1 ++ l.take 1) m = spAny l m := by
  cases l with
  | nil => rfl
  | cons s t =>
    unfold spAny
    rw [List.any_append]
    simp [Bool.or_comm]
theorem rot_sv (l : List S29) (h : SV l = true) : SV (l.drop 1 ++ l.take 1) = true := by
  have v := (sv_iff l).1 h
  refine (sv_iff _).2 ⟨fun s hs => v.1 s ?_, ?_⟩
  · rcases List.mem_append.mp hs with g | g
    · exact List.mem_of_mem_drop g
    · exact List.mem_of_mem_take g
  · rw [List.length_append, List.length_drop, List.length_take]
    omega
theorem FnSpansTwice (l : List Int) (_ : l.length ≤ maxLen) (hl : ∀ x ∈ l, (Lit.int .u8 x).wf = true) : ∃ k, laws_FnSpansTwice.f k l = some true := by
  refine ⟨4000, ?_⟩
  unfold laws_FnSpansTwice.f
  by_cases c : (l.length : Int) > 1048576
  · rw [if_pos c]
  · obtain ⟨L, e, hL⟩ := dsj_ok 4000 l (by omega) hl
    have hs := sj_len L
    rw [if_neg c, e, Option.bind_some, i_spj _ (by omega) _ (by omega), Option.bind_some, k_spj _ (by omega) _ (by omega), Option.bind_some, same_ _ (by omega) _ (by omega), Option.bind_some, if_pos rfl, k_sv _ (by omega) _ (by omega), Option.bind_some]
    have hj : laws_FnSpansTwice.j0 4000 L (SJ L) (SJ L) true = some true := by
      show laws_FnSpansTwice.j0 (3999 + 1) _ _ _ _ = _
      simp only [laws_FnSpansTwice.j0]
      rw [if_pos trivial, same_ _ (by omega) _ (by omega)]
      rfl
    by_cases v : SV L = true
    · rw [if_pos v]
      by_cases z : ((L.length : Int) == 0) = true
      · rw [z]
        exact hj
      · have z' : (L.length : Int) ≠ 0 := fun g => z (by rw [g]; rfl)
        rw [Bool.eq_false_iff.mpr z]
        show laws_FnSpansTwice.j0 (3999 + 1) _ _ _ _ = _
        simp only [laws_FnSpansTwice.j0]
        have o : SJ L = RU (spAny L) := if_pos v
        have hf := join_few L v
        have hn := ((sv_iff L).1 v).2
        have t1 : SJ (SJ L) = SJ L := by
          rw [o]
          rw [show SJ (RU (spAny L)) = RU (spAny (RU (spAny L))) from if_pos (ru_sv _ (by omega))]
          exact ru_congr _ _ fun m m0 m1 => ru_any _ m m0 m1
        have t2 : SJ (L.drop 1 ++ L.take 1) = SJ L := by
          rw [show SJ (L.drop 1 ++ L.take 1) = RU (spAny (L.drop 1 ++ L.take 1)) from if_pos (rot_sv L v), o]
          exact ru_congr _ _ fun m _ _ => rot_any L m
        have hr : rotS L = some (L.drop 1 ++ L.take 1) := by unfold rotS; rw [if_pos (by omega)]
        have hl2 : (L.drop 1 ++ L.take 1).length ≤ 12 := by rw [List.length_append, List.length_drop, List.length_take]; omega
        rw [if_neg (by simp), hr, Option.bind_some, i_spj _ (by omega) _ (by omega), Option.bind_some, t1, same_ _ (by omega) _ (by omega), Option.bind_some, if_pos rfl, i_spj _ (by omega) _ (by omega), Option.bind_some, t2, same_ _ (by omega) _ (by omega)]
        rfl
    · rw [if_neg v]
      exact hj

end Go.Proofs.Ytphjimjcfpnkmaa.Pure
