/- FnAmountParseBad answers true at every list of bytes. -/
import Derived.Test.YtdedhnlgjegbhaaDoorQFnAmountParseBad
import Derived.Lib.Strings
import Derived.Lib.ItoaNum
import Derived.Lib.AtoiAll
import Derived.Lib.LazyBuf
import Derived.Laws.BitsLemmas
namespace Go.Proofs.YtdedhnlgjegbhaaDoor.Pure
open Go.RowKit Go.Proofs.YtdedhnlgjegbhaaDoor.PFnAmountParseBad Go.Proofs.YtdedhnlgjegbhaaDoorW.PrintWords Go.Proofs.YtdedhnlgjegbhaaDoorW.PrintLast
set_option linter.unusedSimpArgs false
set_option linter.unusedVariables false

/-! ### core -/
theorem k_in (a b c : Int) : spec_l6In.f a b c = some (decide (b ≤ a ∧ a ≤ c)) := by
  unfold spec_l6In.f
  by_cases h : b ≤ a <;> simp [h]
theorem i_in (a b c : Int) : impl_within.f a b c = some (decide (b ≤ a ∧ a ≤ c)) := by
  unfold impl_within.f
  by_cases h : b ≤ a <;> simp [h]
theorem w_ (n : Int) (h : -9223372036854775808 ≤ n) (h' : n ≤ 9223372036854775807) : wrap64 n = n := by unfold wrap64; omega
theorem div_low (a b : Int) (hb : 0 < b) : (a / b) * b ≤ a := Int.ediv_mul_le a (by omega)
theorem div_high (a b : Int) (hb : 0 < b) : a < (a / b) * b + b := by
  have h := Int.lt_ediv_add_one_mul_self a hb
  rw [Int.add_mul] at h
  omega
theorem div_is (a b q : Int) (hb : 0 < b) (h1 : q * b ≤ a) (h2 : a < q * b + b) : a / b = q := by
  have h3 := Int.le_ediv_of_mul_le hb h1
  have h4 : a / b < q + 1 := Int.ediv_lt_of_lt_mul hb (by rw [Int.add_mul]; omega)
  omega

/-! ### dg -/
/-- The digits of a number below 10000. -/
def dg (n : Nat) : List UInt8 :=
  if n < 10 then [UInt8.ofNat (48 + n)] else if n < 100 then [UInt8.ofNat (48 + n / 10), UInt8.ofNat (48 + n % 10)]
  else if n < 1000 then [UInt8.ofNat (48 + n / 100), UInt8.ofNat (48 + n / 10 % 10), UInt8.ofNat (48 + n % 10)]
  else [UInt8.ofNat (48 + n / 1000), UInt8.ofNat (48 + n / 100 % 10), UInt8.ofNat (48 + n / 10 % 10), UInt8.ofNat (48 + n % 10)]
theorem dec_dg (n : Nat) (h : n ≤ 9999) : Lib.decDigits n = dg n := by
  unfold dg
  by_cases h1 : n < 10
  · rw [if_pos h1, Lib.decDigits_one h1]
  · rw [if_neg h1, Lib.decDigits, dif_neg h1]
    by_cases h2 : n < 100
    · rw [if_pos h2, Lib.decDigits_one (by omega)]
      rfl
    · rw [if_neg h2, Lib.decDigits, dif_neg (by omega)]
      by_cases h3 : n < 1000
      · rw [if_pos h3, Lib.decDigits_one (by omega), Nat.div_div_eq_div_mul]
        rfl
      · rw [if_neg h3, Lib.decDigits, dif_neg (by omega), Lib.decDigits_one (by omega), show n / 10 / 10 / 10 = n / 1000 by omega, show n / 10 / 10 = n / 100 by omega]
        rfl
theorem itoa_dg (n : Nat) (h : n ≤ 9999) : Lib.itoa (n : Int) = dg n := by
  unfold Lib.itoa
  rw [if_neg (by omega), Int.toNat_natCast, dec_dg n h]
theorem dg_len (n : Nat) : (dg n).length ≤ 4 := by
  unfold dg
  repeat' split
  all_goals simp
/-- A digit. -/
def isD (c : UInt8) : Bool := decide (48 ≤ c.toNat) && decide (c.toNat ≤ 57)
/-- What digits spell. -/
def val (a : Nat) (l : List UInt8) : Nat := l.foldl (fun n c => 10 * n + (c.toNat - 48)) a
/-- A number of at most four digits, with no zero in front. -/
def num (l : List UInt8) : Option Nat := if (1 ≤ l.length ∧ l.length ≤ 4) ∧ ¬ (1 < l.length ∧ l.head? = some 48) ∧ l.all isD = true then some (val 0 l) else none
theorem o48 (k : Nat) (h : k ≤ 9) : (UInt8.ofNat (48 + k)).toNat = 48 + k := by
  rw [UInt8.toNat_ofNat']
  omega
theorem isD_o (k : Nat) (h : k ≤ 9) : isD (UInt8.ofNat (48 + k)) = true := by
  unfold isD
  rw [o48 k h, decide_eq_true (by omega), decide_eq_true (by omega)]
  rfl
theorem o48_ne (k : Nat) (h : k ≤ 9) (h1 : 1 ≤ k) : UInt8.ofNat (48 + k) ≠ 48 := fun e => by
  have e1 := congrArg UInt8.toNat e
  rw [o48 k h, show (48 : UInt8).toNat = 48 from rfl] at e1
  omega
theorem num_dg (n : Nat) (h : n ≤ 9999) : num (dg n) = some n := by
  unfold num dg
  by_cases h1 : n < 10
  · rw [if_pos h1, if_pos ⟨by simp, fun g => by simp at g, by rw [List.all_cons, isD_o (n) (by omega), Bool.true_and, List.all_nil]⟩]
    simp only [val, List.foldl_cons, List.foldl_nil]
    rw [o48 n (by omega)]
    congr 1
    omega
  · rw [if_neg h1]
    by_cases h2 : n < 100
    · rw [if_pos h2, if_pos ⟨by simp, fun g => o48_ne (n / 10) (by omega) (by omega) (Option.some.inj g.2), by rw [List.all_cons, isD_o (n / 10) (by omega), Bool.true_and, List.all_cons, isD_o (n % 10) (by omega), Bool.true_and, List.all_nil]⟩]
      simp only [val, List.foldl_cons, List.foldl_nil]
      rw [o48 (n / 10) (by omega), o48 (n % 10) (by omega)]
      congr 1
      omega
    · rw [if_neg h2]
      by_cases h3 : n < 1000
      · rw [if_pos h3, if_pos ⟨by simp, fun g => o48_ne (n / 100) (by omega) (by omega) (Option.some.inj g.2), by rw [List.all_cons, isD_o (n / 100) (by omega), Bool.true_and, List.all_cons, isD_o (n / 10 % 10) (by omega), Bool.true_and, List.all_cons, isD_o (n % 10) (by omega), Bool.true_and, List.all_nil]⟩]
        simp only [val, List.foldl_cons, List.foldl_nil]
        rw [o48 (n / 100) (by omega), o48 (n / 10 % 10) (by omega), o48 (n % 10) (by omega)]
        congr 1
        omega
      · rw [if_neg h3, if_pos ⟨by simp, fun g => o48_ne (n / 1000) (by omega) (by omega) (Option.some.inj g.2), by rw [List.all_cons, isD_o (n / 1000) (by omega), Bool.true_and, List.all_cons, isD_o (n / 100 % 10) (by omega), Bool.true_and, List.all_cons, isD_o (n / 10 % 10) (by omega), Bool.true_and, List.all_cons, isD_o (n % 10) (by omega), Bool.true_and, List.all_nil]⟩]
        simp only [val, List.foldl_cons, List.foldl_nil]
        rw [o48 (n / 1000) (by omega), o48 (n / 100 % 10) (by omega), o48 (n / 10 % 10) (by omega), o48 (n % 10) (by omega)]
        congr 1
        omega
theorem pu_step (a k : Nat) (r : List UInt8) (ha : a ≤ 99999) (hk : k ≤ 9) : Lib.parseUint10 a (UInt8.ofNat (48 + k) :: r) = Lib.parseUint10 (a * 10 + k) r := by
  simp only [Lib.parseUint10]
  rw [o48 k hk, if_pos (by omega), if_neg (by omega), if_neg (by omega), show 48 + k - 48 = k by omega]
theorem atoi_of (k n : Nat) (r : List UInt8) (hk : k ≤ 9) (hn : n ≤ 9999) (h : Lib.parseUint10 0 (UInt8.ofNat (48 + k) :: r) = .ok n) : Lib.atoiAll (UInt8.ofNat (48 + k) :: r) = .ok (n : Int) := by
  simp only [Lib.atoiAll]
  rw [o48 k hk, if_neg (by omega)]
  unfold Lib.parseMag
  rw [if_neg (by simp), h]
  simp only []
  rw [if_neg (by omega), if_neg (by omega), if_neg (by omega)]
theorem atoi_dg (n : Nat) (h : n ≤ 9999) : Lib.atoiAll (dg n) = .ok (n : Int) := by
  unfold dg
  by_cases h1 : n < 10
  · rw [if_pos h1]
    refine atoi_of n n [] (by omega) h ?_
    rw [pu_step _ _ _ (by omega) (by omega)]
    simp [Lib.parseUint10]
  · rw [if_neg h1]
    by_cases h2 : n < 100
    · rw [if_pos h2]
      refine atoi_of _ n _ (by omega) h ?_
      rw [pu_step _ _ _ (by omega) (by omega), pu_step _ _ _ (by omega) (by omega)]
      simp only [Lib.parseUint10]
      congr 1
      omega
    · rw [if_neg h2]
      by_cases h3 : n < 1000
      · rw [if_pos h3]
        refine atoi_of _ n _ (by omega) h ?_
        rw [pu_step _ _ _ (by omega) (by omega), pu_step _ _ _ (by omega) (by omega), pu_step _ _ _ (by omega) (by omega)]
        simp only [Lib.parseUint10]
        congr 1
        omega
      · rw [if_neg h3]
        refine atoi_of _ n _ (by omega) h ?_
        rw [pu_step _ _ _ (by omega) (by omega), pu_step _ _ _ (by omega) (by omega), pu_step _ _ _ (by omega) (by omega), pu_step _ _ _ (by omega) (by omega)]
        simp only [Lib.parseUint10]
        congr 1
        omega
theorem dg_isD (n : Nat) (h : n ≤ 9999) : ∀ c ∈ dg n, isD c = true := by
  have e := num_dg n h
  unfold num at e
  split at e
  · rename_i g
    exact List.all_eq_true.mp g.2.2
  · cases e
theorem dg_inj (m n : Nat) (hm : m ≤ 9999) (hn : n ≤ 9999) (h : dg m = dg n) : m = n := by
  have e1 := num_dg m hm
  rw [h, num_dg n hn] at e1
  exact (Option.some.inj e1).symm
theorem ofN (c : UInt8) (n : Nat) (h : c.toNat = n) : UInt8.ofNat n = c := by
  subst h
  exact UInt8.ofNat_toNat
theorem isD_iff (c : UInt8) : isD c = true ↔ 48 ≤ c.toNat ∧ c.toNat ≤ 57 := by
  unfold isD
  rw [Bool.and_eq_true, decide_eq_true_eq, decide_eq_true_eq]
theorem num_is (l : List UInt8) (v : Nat) (h : num l = some v) : l = dg v ∧ v ≤ 9999 := by
  unfold num at h
  split at h
  · rename_i g
    obtain ⟨⟨h1, h4⟩, hz, hd⟩ := g
    have hv := Option.some.inj h
    clear h
    rw [List.all_eq_true] at hd
    match l, h1, h4, hz, hd, hv with
    | [a], _, _, _, hd, hv =>
      have ha := (isD_iff a).1 (hd a (by simp))
      simp only [val, List.foldl_cons, List.foldl_nil] at hv
      refine ⟨?_, by omega⟩
      unfold dg
      rw [if_pos (by omega), ofN a (48 + v) (by omega)]
    | [a, b], _, _, hz, hd, hv =>
      have ha := (isD_iff a).1 (hd a (by simp))
      have hb := (isD_iff b).1 (hd b (by simp))
      have hn : a.toNat ≠ 48 := fun e => hz ⟨by simp, by simp; exact UInt8.toNat_inj.mp e⟩
      simp only [val, List.foldl_cons, List.foldl_nil] at hv
      refine ⟨?_, by omega⟩
      unfold dg
      rw [if_neg (by omega), if_pos (by omega), ofN a (48 + v / 10) (by omega), ofN b (48 + v % 10) (by omega)]
    | [a, b, c], _, _, hz, hd, hv =>
      have ha := (isD_iff a).1 (hd a (by simp))
      have hb := (isD_iff b).1 (hd b (by simp))
      have hc := (isD_iff c).1 (hd c (by simp))
      have hn : a.toNat ≠ 48 := fun e => hz ⟨by simp, by simp; exact UInt8.toNat_inj.mp e⟩
      simp only [val, List.foldl_cons, List.foldl_nil] at hv
      refine ⟨?_, by omega⟩
      unfold dg
      rw [if_neg (by omega), if_neg (by omega), if_pos (by omega), ofN a (48 + v / 100) (by omega), ofN b (48 + v / 10 % 10) (by omega), ofN c (48 + v % 10) (by omega)]
    | [a, b, c, d], _, _, hz, hd, hv =>
      have ha := (isD_iff a).1 (hd a (by simp))
      have hb := (isD_iff b).1 (hd b (by simp))
      have hc := (isD_iff c).1 (hd c (by simp))
      have hd' := (isD_iff d).1 (hd d (by simp))
      have hn : a.toNat ≠ 48 := fun e => hz ⟨by simp, by simp; exact UInt8.toNat_inj.mp e⟩
      simp only [val, List.foldl_cons, List.foldl_nil] at hv
      refine ⟨?_, by omega⟩
      unfold dg
      rw [if_neg (by omega), if_neg (by omega), if_neg (by omega), ofN a (48 + v / 1000) (by omega), ofN b (48 + v / 100 % 10) (by omega), ofN c (48 + v / 10 % 10) (by omega), ofN d (48 + v % 10) (by omega)]
    | [], h1, _, _, _, _ => simp at h1
    | _ :: _ :: _ :: _ :: _ :: _, _, h4, _, _, _ => simp at h4
  · cases h
theorem num_no (l : List UInt8) (h : ∀ v : Nat, v ≤ 9999 → l ≠ dg v) : num l = none := by
  cases e : num l with
  | none => rfl
  | some v =>
    have g := num_is l v e
    exact absurd g.1 (h v g.2)

/-! ### at -/
/-- The letters of a unit. -/
def UL (u : Int) : List UInt8 := if u = 1 then [103] else if u = 2 then [109, 108] else [120]
/-- The text of an amount. -/
def AX (n u : Int) : ByteArray := if (0 ≤ n ∧ n ≤ 9999) ∧ (1 ≤ u ∧ u ≤ 3) then ⟨(dg n.toNat ++ UL u).toArray⟩ else ⟨#[]⟩
theorem ul_len (u : Int) : 1 ≤ (UL u).length ∧ (UL u).length ≤ 2 := by
  unfold UL
  repeat' split
  all_goals simp
theorem ax_list (n : Nat) (u : Int) (hn : n ≤ 9999) (hu : 1 ≤ u ∧ u ≤ 3) : (AX (n : Int) u).toList = dg n ++ UL u := by
  unfold AX
  rw [if_pos ⟨by omega, hu⟩, ByteArray.toList_eq, Int.toNat_natCast]
theorem nil_list : (⟨#[]⟩ : ByteArray).toList = [] := by
  rw [ByteArray.toList_eq]
theorem list_ext (x y : ByteArray) (h : x.toList = y.toList) : x = y := by
  rw [ByteArray.toList_eq, ByteArray.toList_eq] at h
  exact ByteArray.ext (Array.ext' h)
theorem app_mk (a b : List UInt8) : (⟨a.toArray⟩ : ByteArray) ++ ⟨b.toArray⟩ = ⟨(a ++ b).toArray⟩ := by
  apply list_ext
  rw [ByteArray.toList_eq, ByteArray.toList_eq]
  show ((⟨a.toArray⟩ : ByteArray) ++ (⟨b.toArray⟩ : ByteArray)).data.toList = (a ++ b).toArray.toList
  rw [ByteArray.data_append]
  simp
theorem mk_size (a : List UInt8) : (⟨a.toArray⟩ : ByteArray).size = a.length := rfl

/-! ### iat -/
theorem i_av (n u : Int) : impl_AmountValid.f n u = some (decide ((0 ≤ n ∧ n ≤ 9999) ∧ (1 ≤ u ∧ u ≤ 3))) := by
  unfold impl_AmountValid.f
  rw [i_in]
  by_cases h : 0 ≤ n ∧ n ≤ 9999
  · simp [h, i_in]
  · simp [h]
theorem i_ut (u : Int) (h : 1 ≤ u ∧ u ≤ 3) : impl_unitText.f u = some ⟨(UL u).toArray⟩ := by
  unfold impl_unitText.f UL
  by_cases c1 : u = 1
  · rw [if_pos c1, if_pos c1]
  · by_cases c2 : u = 2
    · rw [if_neg c1, if_neg c1, if_pos c2, if_pos c2]
    · rw [if_neg c1, if_neg c1, if_neg c2, if_neg c2, if_pos (by omega)]
theorem i_at (n u : Int) (k : Nat) : impl_AmountText.f k n u = some (AX n u) := by
  unfold impl_AmountText.f AX
  rw [i_av, Option.bind_some]
  by_cases h : (0 ≤ n ∧ n ≤ 9999) ∧ (1 ≤ u ∧ u ≤ 3)
  · obtain ⟨m, rfl⟩ := Int.eq_ofNat_of_zero_le h.1.1
    have l1 := dg_len m
    have l2 := ul_len u
    rw [if_pos h, if_pos (decide_eq_true h)]
    unfold strconv_Itoa_31.f
    rw [if_pos (by omega), Option.bind_some, i_ut u h.2, Option.bind_some, itoa_dg m (by omega), mk_size, mk_size, if_pos (by omega), app_mk, Int.toNat_natCast]
  · rw [if_neg h, if_neg (by rw [decide_eq_false h]; simp)]

/-! ### iap -/
/-- The number in front of the letters of a unit. -/
theorem suf_iff (x : ByteArray) (t : List UInt8) : Lib.hasSuffix x.data.toList t = true ↔ ∃ l, x.data.toList = l ++ t := by
  unfold Lib.hasSuffix
  rw [List.isSuffixOf_iff_suffix]
  constructor
  · rintro ⟨l, h⟩; exact ⟨l, h.symm⟩
  · rintro ⟨l, h⟩; exact ⟨l, h.symm⟩
theorem trim_of (l t : List UInt8) : Lib.trimSuffix (l ++ t) t = l := by
  unfold Lib.trimSuffix
  rw [if_pos (by unfold Lib.hasSuffix; rw [List.isSuffixOf_iff_suffix]; exact ⟨l, rfl⟩)]
  simp
/-- The text is that of an amount of this unit. -/
def isA (x : ByteArray) (n : Nat) (u : Int) : Prop := n ≤ 9999 ∧ (1 ≤ u ∧ u ≤ 3) ∧ x.data.toList = dg n ++ UL u
theorem ul_last (u : Int) : ∃ l c, UL u = l ++ [c] ∧ 58 ≤ c.toNat ∧ (c = 103 ↔ u = 1) ∧ ((c = 108) ↔ u = 2) := by
  unfold UL
  by_cases h1 : u = 1
  · rw [if_pos h1]; exact ⟨[], 103, rfl, by decide, by simp [h1], by simp; omega⟩
  · by_cases h2 : u = 2
    · rw [if_neg h1, if_pos h2]; exact ⟨[109], 108, rfl, by decide, by simp; omega, by simp [h2]⟩
    · rw [if_neg h1, if_neg h2]; exact ⟨[], 120, rfl, by decide, by simp [h1], by simp [h2]⟩
theorem last_eq (a b : List UInt8) (c d : UInt8) (h : a ++ [c] = b ++ [d]) : a = b ∧ c = d := by
  have := List.append_inj' h rfl
  exact ⟨this.1, by simpa using this.2⟩
theorem unit_eq (a b : List UInt8) (u v : Int) (hu : 1 ≤ u ∧ u ≤ 3) (hv : 1 ≤ v ∧ v ≤ 3) (h : a ++ UL u = b ++ UL v) : u = v := by
  obtain ⟨l1, c1, e1, _, g1, k1⟩ := ul_last u
  obtain ⟨l2, c2, e2, _, g2, k2⟩ := ul_last v
  rw [e1, e2, ← List.append_assoc, ← List.append_assoc] at h
  have hc := (last_eq _ _ _ _ h).2
  subst hc
  by_cases q1 : c1 = 103
  · rw [g1.1 q1, g2.1 q1]
  · by_cases q2 : c1 = 108
    · rw [k1.1 q2, k2.1 q2]
    · have : u ≠ 1 := fun e => q1 (g1.2 e)
      have : u ≠ 2 := fun e => q2 (k1.2 e)
      have : v ≠ 1 := fun e => q1 (g2.2 e)
      have : v ≠ 2 := fun e => q2 (k2.2 e)
      omega
theorem isA_inj (x : ByteArray) (n m : Nat) (u v : Int) (h : isA x n u) (g : isA x m v) : n = m ∧ u = v := by
  obtain ⟨hn, hu, hx⟩ := h
  obtain ⟨hm, hv, gx⟩ := g
  rw [hx] at gx
  obtain rfl := unit_eq _ _ _ _ hu hv gx
  exact ⟨dg_inj n m hn hm (List.append_cancel_right gx), rfl⟩
theorem ap_turn (x : ByteArray) (u : Int) (hu : 1 ≤ u ∧ u ≤ 3) (k : Nat) (R : Option (Int × Int × Bool)) (hno : ∀ n, ¬ isA x n u) :
    (atEnd x ⟨(UL u).toArray⟩).elim R (fun v => ((impl_AmountText.f k v u).bind fun s => (if s.toList = x.toList then (some (v, u, true)) else R))) = R := by
  unfold atEnd
  by_cases c : Lib.hasSuffix x.data.toList (UL u) = true
  · rw [if_pos c]
    cases e : Lib.atoiAll (Lib.trimSuffix x.data.toList (UL u)) with
    | ok v =>
      simp only [Option.elim_some]
      rw [i_at, Option.bind_some, if_neg]
      intro g
      by_cases h : (0 ≤ v ∧ v ≤ 9999) ∧ (1 ≤ u ∧ u ≤ 3)
      · obtain ⟨m, rfl⟩ := Int.eq_ofNat_of_zero_le h.1.1
        rw [ax_list m u (by omega) hu, ByteArray.toList_eq] at g
        exact hno m ⟨by omega, hu, g.symm⟩
      · have hx : AX v u = ⟨#[]⟩ := by unfold AX; rw [if_neg h]
        rw [hx, nil_list, ByteArray.toList_eq] at g
        obtain ⟨l, hl⟩ := (suf_iff x (UL u)).1 c
        rw [← g] at hl
        have := congrArg List.length hl
        have l2 := ul_len u
        simp at this
        omega
    | _ => rfl
  · rw [if_neg c]
    rfl
theorem ap_hit (x : ByteArray) (n : Nat) (u : Int) (h : isA x n u) (k : Nat) (R : Option (Int × Int × Bool)) :
    (atEnd x ⟨(UL u).toArray⟩).elim R (fun v => ((impl_AmountText.f k v u).bind fun s => (if s.toList = x.toList then (some (v, u, true)) else R))) = some ((n : Int), u, true) := by
  obtain ⟨hn, hu, hx⟩ := h
  have e : atEnd x ⟨(UL u).toArray⟩ = some (n : Int) := by
    unfold atEnd
    have c : Lib.hasSuffix x.data.toList (UL u) = true := (suf_iff x (UL u)).2 ⟨_, hx⟩
    rw [if_pos c]
    show (match Lib.atoiAll (Lib.trimSuffix x.data.toList (UL u)) with | .ok v => some v | _ => none) = _
    rw [hx, trim_of, atoi_dg n hn]
  rw [e, Option.elim_some, i_at, Option.bind_some, if_pos]
  rw [ax_list n u hn hu, ByteArray.toList_eq, hx]
theorem i_ap_go (x : ByteArray) (k : Nat) (R : Int × Int × Bool) (d : Nat) : ∀ (j : Nat) (u : Int), 1 ≤ u → u + d = 4 → d < j →
    ((∃ n v, isA x n v ∧ u ≤ v ∧ R = ((n : Int), v, true)) ∨ ((∀ n v, u ≤ v → ¬ isA x n v) ∧ R = (0, 0, false))) → impl_AmountParse.l0 j x u = some R := by
  induction d with
  | zero =>
    intro j u h1 hu hj h
    obtain ⟨j, rfl⟩ : ∃ r, j = r + 1 := ⟨j - 1, by omega⟩
    simp only [impl_AmountParse.l0]
    rw [if_neg (by omega)]
    rcases h with ⟨n, v, ha, hv, _⟩ | ⟨_, rfl⟩
    · have := ha.2.1
      omega
    · rfl
  | succ d ih =>
    intro j u h1 hu hj h
    obtain ⟨j, rfl⟩ : ∃ r, j = r + 1 := ⟨j - 1, by omega⟩
    have e : wrap64 (u + 1) = u + 1 := w_ _ (by omega) (by omega)
    simp only [impl_AmountParse.l0]
    rw [if_pos (by omega), i_ut u (by omega), Option.bind_some, e]
    rcases h with ⟨n, v, ha, hv, rfl⟩ | ⟨hno, rfl⟩
    · by_cases c : u = v
      · subst c
        exact ap_hit x n u ha j _
      · rw [ap_turn x u (by omega) j _ (fun m g => c ((isA_inj x m n u v g ha).2))]
        exact ih j (u + 1) (by omega) (by omega) (by omega) (.inl ⟨n, v, ha, by omega, rfl⟩)
    · rw [ap_turn x u (by omega) j _ (fun m => hno m u (by omega))]
      exact ih j (u + 1) (by omega) (by omega) (by omega) (.inr ⟨fun n v hv => hno n v (by omega), rfl⟩)
theorem i_ap_hit (x : ByteArray) (hx : x.size ≤ 1099511627776) (n : Nat) (u : Int) (h : isA x n u) (k : Nat) (hk : 5 ≤ k) : impl_AmountParse.f k x = some ((n : Int), u, true) := by
  unfold impl_AmountParse.f
  rw [if_pos hx]
  exact i_ap_go x k _ 3 k 1 (by omega) (by omega) (by omega) (.inl ⟨n, u, h, h.2.1.1, rfl⟩)
theorem i_ap_miss (x : ByteArray) (hx : x.size ≤ 1099511627776) (h : ∀ n u, ¬ isA x n u) (k : Nat) (hk : 5 ≤ k) : impl_AmountParse.f k x = some (0, 0, false) := by
  unfold impl_AmountParse.f
  rw [if_pos hx]
  exact i_ap_go x k _ 3 k 1 (by omega) (by omega) (by omega) (.inr ⟨fun n v _ => h n v, rfl⟩)

/-! ### kut -/
theorem k_ut (u : Int) (h : 1 ≤ u ∧ u ≤ 3) : spec_l1Unit.f u = some ⟨(UL u).toArray⟩ := by
  obtain rfl | rfl | rfl : u = 1 ∨ u = 2 ∨ u = 3 := by omega
  all_goals rfl

/-! ### num -/
theorem bt_drop (p : ByteArray) (i : Nat) (h : i < p.size) : ∃ c : UInt8, bt p (i : Int) = (c.toNat : Int) ∧ p.data.toList.drop i = c :: p.data.toList.drop (i + 1) := by
  have h' : i < p.data.toList.length := by rw [Array.length_toList]; exact h
  refine ⟨p.data.toList[i], ?_, List.drop_eq_getElem_cons h'⟩
  unfold bt
  rw [dif_pos (show ((i : Int)).toNat < p.size by omega)]
  rfl
/-- The greatest number with so many digits to come. -/
def cap : Nat → Nat
  | 0 => 9999
  | 1 => 999
  | 2 => 99
  | 3 => 9
  | _ => 0
theorem cap_le (d : Nat) : cap d ≤ 9999 := by
  unfold cap
  split <;> omega
theorem cap_step (d a x : Nat) (hd : d ≤ 3) (h : a ≤ cap (d + 1)) (hx : x ≤ 9) : 10 * a + x ≤ cap d := by
  obtain rfl | rfl | rfl | rfl : d = 0 ∨ d = 1 ∨ d = 2 ∨ d = 3 := by omega
  all_goals simp only [cap] at h ⊢
  all_goals omega
theorem kn_loop (p : ByteArray) (hp : p.size ≤ 4) (d : Nat) : ∀ (k i a : Nat), i + d = p.size → d < k → a ≤ cap d →
    spec_l1Number.l0 k p (a : Int) (i : Int) = some (if (p.data.toList.drop i).all isD = true then ((val a (p.data.toList.drop i) : Nat) : Int) else -1) := by
  induction d with
  | zero =>
    intro k i a hi hk ha
    obtain ⟨k, rfl⟩ : ∃ r, k = r + 1 := ⟨k - 1, by omega⟩
    simp only [spec_l1Number.l0]
    have e : p.data.toList.drop i = [] := List.drop_eq_nil_of_le (by rw [Array.length_toList]; exact Nat.le_of_eq hi.symm)
    rw [if_neg (by omega), e]
    rfl
  | succ d ih =>
    intro k i a hi hk ha
    obtain ⟨k, rfl⟩ : ∃ r, k = r + 1 := ⟨k - 1, by omega⟩
    obtain ⟨c, hc, hd⟩ := bt_drop p i (by omega)
    have e : wrap64 ((i : Int) + 1) = ((i + 1 : Nat) : Int) := by rw [w_ _ (by omega) (by omega)]; omega
    have hpos : 1 ≤ 10 ^ d := Nat.one_le_pow _ _ (by omega)
    have ha1 := Nat.le_trans ha (cap_le _)
    simp only [spec_l1Number.l0]
    rw [if_pos (by omega), if_pos (by omega), hc, hd, e, List.all_cons]
    by_cases c1 : (c.toNat : Int) < 48
    · rw [if_pos c1, if_neg]
      intro g
      rw [Bool.and_eq_true] at g
      have := (isD_iff c).1 g.1
      omega
    · rw [if_neg c1]
      by_cases c2 : (c.toNat : Int) > 57
      · rw [if_pos c2, if_neg]
        intro g
        rw [Bool.and_eq_true] at g
        have := (isD_iff c).1 g.1
        omega
      · have h57 : c.toNat - 48 ≤ 9 := by clear e ih; omega
        have hle := cap_step d a (c.toNat - 48) (by clear e ih; omega) ha h57
        have hD : isD c = true := (isD_iff c).2 ⟨by omega, by omega⟩
        have hm : ((c.toNat : Int) - 48) % 256 = ((c.toNat - 48 : Nat) : Int) := by omega
        have hw : wrap64 (wrap64 (10 * (a : Int)) + ((c.toNat : Int) - 48) % 256) = ((10 * a + (c.toNat - 48) : Nat) : Int) := by
          rw [hm, w_ (10 * (a : Int)) (by omega) (by omega), w_ _ (by omega) (by omega)]
          omega
        rw [if_neg c2, hw, hD, Bool.true_and]
        exact ih k (i + 1) _ (by clear hw hm e ih; omega) (by clear hw hm e ih; omega) hle
theorem k_num (p : ByteArray) (k : Nat) (hk : 7 ≤ k) : spec_l1Number.f k p = some (match num p.data.toList with | some v => (v : Int) | none => -1) := by
  obtain ⟨k, rfl⟩ : ∃ r, k = r + 1 := ⟨k - 1, by omega⟩
  have hl : p.data.toList.length = p.size := Array.length_toList
  unfold spec_l1Number.f num
  rw [k_in, Option.bind_some, hl]
  by_cases c : 1 ≤ (p.size : Int) ∧ (p.size : Int) ≤ 4
  · rw [if_pos (decide_eq_true c)]
    have hloop := kn_loop p (by omega) p.size k 0 0 (by omega) (by omega) (Nat.zero_le _)
    rw [List.drop_zero] at hloop
    have hgo : spec_l1Number.l0 k p 0 0 = some (match (if p.data.toList.all isD = true then some (val 0 p.data.toList) else none) with | some v => (v : Int) | none => -1) := by
      rw [show (0 : Int) = ((0 : Nat) : Int) from rfl, hloop]
      by_cases g : p.data.toList.all isD = true
      · rw [if_pos g, if_pos g]
      · rw [if_neg g, if_neg g]
    by_cases c1 : (p.size : Int) > 1
    · rw [if_pos c1, if_pos (by omega)]
      obtain ⟨b, hb, hd⟩ := bt_drop p 0 (by omega)
      rw [show (0 : Int) = ((0 : Nat) : Int) from rfl, hb]
      rw [List.drop_zero] at hd
      by_cases c0 : ((b.toNat : Int) == 48) = true
      · rw [c0]
        simp only [spec_l1Number.j0]
        rw [if_pos trivial, if_neg]
        rintro ⟨_, g, _⟩
        refine g ⟨by omega, ?_⟩
        rw [hd]
        have : b.toNat = 48 := by have := eq_of_beq c0; omega
        exact congrArg some (UInt8.toNat_inj.mp this)
      · rw [Bool.eq_false_iff.mpr c0]
        simp only [spec_l1Number.j0]
        rw [if_neg (by simp)]
        refine Eq.trans hgo ?_
        have hz : ¬ (1 < p.size ∧ p.data.toList.head? = some 48) := by
          rintro ⟨_, g⟩
          rw [hd] at g
          have := Option.some.inj g
          subst this
          exact c0 rfl
        by_cases g : p.data.toList.all isD = true
        · rw [if_pos g, if_pos ⟨by omega, hz, g⟩]
        · rw [if_neg g, if_neg (fun q => g q.2.2)]
    · rw [if_neg c1]
      simp only [spec_l1Number.j0]
      rw [if_neg (by simp)]
      refine Eq.trans hgo ?_
      by_cases g : p.data.toList.all isD = true
      · rw [if_pos g, if_pos ⟨by omega, fun q => by omega, g⟩]
      · rw [if_neg g, if_neg (fun q => g q.2.2)]
  · rw [if_neg (by rw [decide_eq_false c]; simp), if_neg (fun q => c (by omega))]
    simp only [spec_l1Number.j0]
    rw [if_pos trivial]

/-! ### kap -/
theorem ext_drop (x : ByteArray) (m : Nat) : (x.extract m x.size).data.toList = x.data.toList.drop m := by
  rw [← ByteArray.toList_eq, Go.Lib.extract_toList]
  rw [List.take_of_length_le]
  rw [List.length_drop, Array.length_toList]
  exact Nat.le_refl _
theorem ext_take (x : ByteArray) (m : Nat) : (x.extract 0 m).data.toList = x.data.toList.take m := by
  rw [← ByteArray.toList_eq, Go.Lib.extract_toList, List.drop_zero, Nat.sub_zero]
/-- One unit's turn. -/
def turn (k : Nat) (x : ByteArray) (u : Int) (R : Option (Int × Int × Bool)) : Option (Int × Int × Bool) :=
  ((spec_l1Unit.f u).bind fun T => (if (wrap64 ((x.size : Int) - (T.size : Int))) > 0 then (if 0 ≤ (wrap64 ((x.size : Int) - (T.size : Int))) then (if (wrap64 ((x.size : Int) - (T.size : Int))) ≤ (x.size : Int) then ((spec_l1Unit.f u).bind fun T2 => (if (x.extract ((wrap64 ((x.size : Int) - (T.size : Int))) : Int).toNat x.size).toList = T2.toList then ((spec_l1Number.f k (x.extract 0 ((wrap64 ((x.size : Int) - (T.size : Int))) : Int).toNat)).bind fun t3 => (if t3 ≥ 0 then ((spec_l1Number.f k (x.extract 0 ((wrap64 ((x.size : Int) - (T.size : Int))) : Int).toNat)).bind fun t4 => (some (t4, u, true))) else R)) else R)) else (none)) else (none)) else R))
theorem turn_is (k : Nat) (x : ByteArray) (hx : x.size ≤ 1099511627776) (u : Int) (hu : 1 ≤ u ∧ u ≤ 3) (hk : 7 ≤ k) (R : Option (Int × Int × Bool)) :
    turn k x u R = if (UL u).length < x.size ∧ x.data.toList.drop (x.size - (UL u).length) = UL u then (match num (x.data.toList.take (x.size - (UL u).length)) with | some v => some ((v : Int), u, true) | none => R) else R := by
  have l2 := ul_len u
  unfold turn
  rw [k_ut u hu, Option.bind_some, Option.bind_some, mk_size (UL u), w_ _ (by omega) (by omega)]
  by_cases c : (UL u).length < x.size
  · have hm : ((x.size : Int) - ((UL u).length : Int)).toNat = x.size - (UL u).length := by omega
    rw [if_pos (by omega), if_pos (by omega), if_pos (by omega), hm, ByteArray.toList_eq, ByteArray.toList_eq, ext_drop]
    by_cases g : x.data.toList.drop (x.size - (UL u).length) = UL u
    · rw [if_pos g, if_pos ⟨c, g⟩, k_num _ k hk, ext_take]
      cases num (x.data.toList.take (x.size - (UL u).length)) with
      | some v =>
        simp only [Option.bind_some]
        rw [if_pos (by omega)]
      | none =>
        simp only [Option.bind_some]
        rw [if_neg (by omega)]
    · rw [if_neg (show ¬ x.data.toList.drop (x.size - (UL u).length) = (⟨(UL u).toArray⟩ : ByteArray).data.toList from g), if_neg (fun q => g q.2)]
  · rw [if_neg (by omega), if_neg (fun q => c q.1)]
theorem isA_iff (x : ByteArray) (n : Nat) (u : Int) (hu : 1 ≤ u ∧ u ≤ 3) : ((UL u).length < x.size ∧ x.data.toList.drop (x.size - (UL u).length) = UL u) ∧ num (x.data.toList.take (x.size - (UL u).length)) = some n ↔ isA x n u := by
  have hl : x.data.toList.length = x.size := Array.length_toList
  constructor
  · rintro ⟨⟨_, g⟩, e⟩
    have h := num_is _ _ e
    refine ⟨h.2, hu, ?_⟩
    have q : x.data.toList.take (x.size - (UL u).length) ++ x.data.toList.drop (x.size - (UL u).length) = x.data.toList := List.take_append_drop _ _
    rw [g, h.1] at q
    exact q.symm
  · rintro ⟨hn, _, e⟩
    have l1 : 1 ≤ (dg n).length := by
      have := num_dg n hn
      unfold num at this
      split at this
      · rename_i q; exact q.1.1
      · cases this
    have hs : x.size = (dg n).length + (UL u).length := by rw [← hl, e, List.length_append]
    have hm : x.size - (UL u).length = (dg n).length := by omega
    rw [hm, e, List.drop_left, List.take_left]
    exact ⟨⟨by omega, rfl⟩, num_dg n hn⟩
theorem k_ap_go (x : ByteArray) (hx : x.size ≤ 1099511627776) (R : Int × Int × Bool) (d : Nat) : ∀ (j : Nat) (u : Int), 1 ≤ u → u + d = 4 → d + 8 < j →
    ((∃ n v, isA x n v ∧ u ≤ v ∧ R = ((n : Int), v, true)) ∨ ((∀ n v, u ≤ v → ¬ isA x n v) ∧ R = (0, 0, false))) → spec_AmountParse.l0 j x u = some R := by
  induction d with
  | zero =>
    intro j u h1 hu hj h
    obtain ⟨j, rfl⟩ : ∃ r, j = r + 1 := ⟨j - 1, by omega⟩
    simp only [spec_AmountParse.l0]
    rw [if_neg (by omega)]
    rcases h with ⟨n, v, ha, hv, _⟩ | ⟨_, rfl⟩
    · have := ha.2.1
      omega
    · rfl
  | succ d ih =>
    intro j u h1 hu hj h
    obtain ⟨j, rfl⟩ : ∃ r, j = r + 1 := ⟨j - 1, by omega⟩
    have e : wrap64 (u + 1) = u + 1 := w_ _ (by omega) (by omega)
    have ht : spec_AmountParse.l0 (j + 1) x u = turn j x u (spec_AmountParse.l0 j x (wrap64 (u + 1))) := by
      simp only [spec_AmountParse.l0]
      rw [if_pos (by omega)]
      rfl
    rw [ht, turn_is j x hx u (by omega) (by omega), e]
    rcases h with ⟨n, v, ha, hv, rfl⟩ | ⟨hno, rfl⟩
    · by_cases c : u = v
      · subst c
        have q := (isA_iff x n u (by omega)).2 ha
        rw [if_pos q.1, q.2]
      · have r := ih j (u + 1) (by omega) (by omega) (by omega) (.inl ⟨n, v, ha, by omega, rfl⟩)
        split
        · rename_i q
          cases e2 : num (x.data.toList.take (x.size - (UL u).length)) with
          | some m => exact absurd (isA_inj x m n u v ((isA_iff x m u (by omega)).1 ⟨q, e2⟩) ha).2 c
          | none => exact r
        · exact r
    · have r := ih j (u + 1) (by omega) (by omega) (by omega) (.inr ⟨fun n v hv => hno n v (by omega), rfl⟩)
      split
      · rename_i q
        cases e2 : num (x.data.toList.take (x.size - (UL u).length)) with
        | some m => exact absurd ((isA_iff x m u (by omega)).1 ⟨q, e2⟩) (hno m u (by omega))
        | none => exact r
      · exact r
theorem k_ap_hit (x : ByteArray) (hx : x.size ≤ 1099511627776) (n : Nat) (u : Int) (h : isA x n u) (k : Nat) (hk : 20 ≤ k) : spec_AmountParse.f k x = some ((n : Int), u, true) :=
  k_ap_go x hx _ 3 k 1 (by omega) (by omega) (by omega) (.inl ⟨n, u, h, h.2.1.1, rfl⟩)
theorem k_ap_miss (x : ByteArray) (hx : x.size ≤ 1099511627776) (h : ∀ n u, ¬ isA x n u) (k : Nat) (hk : 20 ≤ k) : spec_AmountParse.f k x = some (0, 0, false) :=
  k_ap_go x hx _ 3 k 1 (by omega) (by omega) (by omega) (.inr ⟨fun n v _ => h n v, rfl⟩)
theorem ap_either (x : ByteArray) : (∃ n u, isA x n u) ∨ ∀ n u, ¬ isA x n u := by
  by_cases h : ∃ n u, isA x n u
  · exact .inl h
  · exact .inr fun n u g => h ⟨n, u, g⟩

/-! ### pick -/
/-- What a reader of draws holds: at most 2000 bytes. -/
def Ok (s : List Int) : Prop := s.length ≤ 2000 ∧ ∀ x ∈ s, 0 ≤ x ∧ x ≤ 255
theorem rd_ok {s : List Int} (h : Ok s) (i : Int) : 0 ≤ rd s i ∧ rd s i ≤ 255 := by
  unfold rd
  rw [List.getD_eq_getElem?_getD]
  cases e : s[i.toNat]? with
  | none => simp
  | some x => simpa using h.2 x (List.mem_of_getElem? e)
theorem xor_nonneg (x y : Int) (hx : 0 ≤ x) (hx' : x < 9223372036854775808) (hy : 0 ≤ y) (hy' : y < 9223372036854775808) : 0 ≤ Go.bits .xor .i64 x y := by
  obtain ⟨a, rfl⟩ := Int.eq_ofNat_of_zero_le hx
  obtain ⟨b, rfl⟩ := Int.eq_ofNat_of_zero_le hy
  have ha : a < 2 ^ 63 := by omega
  have hb : b < 2 ^ 63 := by omega
  have hc := Nat.xor_lt_two_pow ha hb
  have e1 : a % 2 ^ IntKind.i64.bits = a := Nat.mod_eq_of_lt (Nat.lt_of_lt_of_le ha (Nat.pow_le_pow_right (by decide) (by decide)))
  have e2 : b % 2 ^ IntKind.i64.bits = b := Nat.mod_eq_of_lt (Nat.lt_of_lt_of_le hb (Nat.pow_le_pow_right (by decide) (by decide)))
  simp only [Go.bits, BitVec.ofInt_natCast, BitVec.toNat_xor, BitVec.toNat_ofNat, e1, e2]
  rw [Go.IntKind.wrap_i64]
  omega
theorem pick_ok (k : Nat) (s : List Int) (p n : Int) (hk : 1 ≤ k) (hs : Ok s) (hp : 0 ≤ p) (hp' : p ≤ 1000000) :
    ∃ r, spec_l6Rd_pick.f k s p n = some (r, p + 1) ∧ 0 ≤ r ∧ (1 ≤ n → r < n) ∧ (n < 1 → r = 0) := by
  obtain ⟨k, rfl⟩ : ∃ m, k = m + 1 := ⟨k - 1, by omega⟩
  unfold spec_l6Rd_pick.f
  have e : wrap64 (p + 1) = p + 1 := w_ _ (by omega) (by omega)
  have e' : wrap64 (p + 1 - 1) = p := by rw [w_ _ (by omega) (by omega)]; omega
  rw [e]
  by_cases hn : n < 1
  · rw [if_pos hn]
    refine ⟨0, ?_, by omega, by omega, by omega⟩
    simp [spec_l6Rd_pick.j0]
  · rw [if_neg hn]
    by_cases hl : (s.length : Int) = 0
    · rw [beq_iff_eq.mpr hl]
      refine ⟨0, ?_, by omega, by omega, by omega⟩
      simp [spec_l6Rd_pick.j0]
    · rw [beq_eq_false_iff_ne.mpr hl]
      have hl' : (s.length : Int) ≤ 2000 := by have := hs.1; omega
      simp only [spec_l6Rd_pick.j0, e']
      rw [if_neg (by simp)]
      by_cases c : p < (s.length : Int)
      · rw [if_pos c, if_pos hp, if_neg (by omega)]
        obtain ⟨r0, r1⟩ := rd_ok hs p
        rw [w_ (rd s p) (by omega) (by omega)]
        exact ⟨_, rfl, Int.tmod_nonneg _ r0, fun _ => Int.tmod_lt_of_pos _ (by omega), by omega⟩
      · have a1 := Int.tmod_nonneg (s.length : Int) hp
        have a2 := Int.tmod_lt_of_pos p (b := (s.length : Int)) (by omega)
        have a3 : wrap64 (wrap64 (p * 7) + 3) = p * 7 + 3 := by rw [w_ (p * 7) (by omega) (by omega), w_ _ (by omega) (by omega)]
        have a4 := Int.tmod_nonneg (s.length : Int) (a := p * 7 + 3) (by omega)
        have a5 := Int.tmod_lt_of_pos (p * 7 + 3) (b := (s.length : Int)) (by omega)
        rw [if_neg c, if_neg hl, if_pos a1, if_pos a2, a3, if_pos a4, if_pos a5, if_neg (by omega)]
        obtain ⟨r0, r1⟩ := rd_ok hs (Int.tmod p (s.length : Int))
        obtain ⟨q0, q1⟩ := rd_ok hs (Int.tmod (p * 7 + 3) (s.length : Int))
        generalize rd s (Int.tmod p (s.length : Int)) = A at *
        generalize rd s (Int.tmod (p * 7 + 3) (s.length : Int)) = B at *
        have d0 : 0 ≤ Int.tdiv p (s.length : Int) := Int.tdiv_nonneg hp (by omega)
        have d1 : Int.tdiv p (s.length : Int) ≤ p := by rw [Int.tdiv_eq_ediv_of_nonneg hp]; exact Int.ediv_le_self _ hp
        generalize Int.tdiv p (s.length : Int) = D at *
        simp (disch := omega) only [w_]
        have x0 : 0 ≤ A * 131 + B * 1117 + p * 29 + D * 53 := by omega
        have x1 : A * 131 + B * 1117 + p * 29 + D * 53 ≤ 100000000 := by omega
        generalize A * 131 + B * 1117 + p * 29 + D * 53 = X at *
        have y0 : 0 ≤ Int.tdiv X 64 := Int.tdiv_nonneg x0 (by omega)
        have y1 : Int.tdiv X 64 ≤ X := by rw [Int.tdiv_eq_ediv_of_nonneg x0]; exact Int.ediv_le_self _ x0
        simp (disch := omega) only [w_]
        exact ⟨_, rfl, Int.tmod_nonneg _ (xor_nonneg _ _ (by omega) (by omega) (by omega) (by omega)), fun _ => Int.tmod_lt_of_pos _ (by omega), by omega⟩
theorem open_ok (l : List Int) (h : ∀ x ∈ l, (Lit.int .u8 x).wf = true) : ∃ s, spec_l6Open.f l = some (s, 0) ∧ Ok s := by
  have b : ∀ x ∈ l, 0 ≤ x ∧ x ≤ 255 := fun x hx => by
    have := h x hx
    simp [Lit.wf, IntKind.min, IntKind.max, IntKind.bits, IntKind.signed] at this
    omega
  unfold spec_l6Open.f
  by_cases c : (l.length : Int) > 2000
  · rw [if_pos c, if_pos (by omega)]
    exact ⟨_, rfl, by rw [List.length_take]; omega, fun x hx => b x (List.mem_of_mem_take hx)⟩
  · rw [if_neg c]
    exact ⟨_, rfl, by omega, b⟩

/-! ### damount -/
theorem amount_ok (k : Nat) (s : List Int) (p : Int) (hk : 1 ≤ k) (hs : Ok s) (hp : 0 ≤ p) (hp' : p ≤ 10000) : ∃ n u q, spec_l91Amount.f k s p = some (n, u, q) ∧ p ≤ q ∧ q ≤ p + 5 := by
  unfold spec_l91Amount.f
  obtain ⟨r1, e1, a1, b1, c1⟩ := pick_ok k s p 100 hk hs hp (by omega)
  obtain ⟨r2, e2, a2, b2, c2⟩ := pick_ok k s (p + 1) 60 hk hs (by omega) (by omega)
  obtain ⟨r3, e3, a3, b3, c3⟩ := pick_ok k s (p + 1 + 1) 3 hk hs (by omega) (by omega)
  obtain ⟨r4, e4, a4, b4, c4⟩ := pick_ok k s (p + 1 + 1 + 1) 24 hk hs (by omega) (by omega)
  rw [e1]; simp only [Option.bind_some]
  rw [e2]; simp only [Option.bind_some]
  rw [e3]; simp only [Option.bind_some]
  rw [e4]; simp only [Option.bind_some]
  by_cases h : r4 = 0
  · obtain ⟨r5, e5, a5, b5, c5⟩ := pick_ok k s (p + 1 + 1 + 1 + 1) 3 hk hs (by omega) (by omega)
    rw [if_pos h, e5]; simp only [Option.bind_some, List.length_cons, List.length_nil]
    rw [if_pos a5, if_pos (by have := b5 (by omega); omega)]
    exact ⟨_, _, _, rfl, by omega, by omega⟩
  · rw [if_neg h]
    by_cases g : r4 = 1
    · obtain ⟨r5, e5, a5, b5, c5⟩ := pick_ok k s (p + 1 + 1 + 1 + 1) 2 hk hs (by omega) (by omega)
      rw [if_pos g, e5]; simp only [Option.bind_some]
      exact ⟨_, _, _, rfl, by omega, by omega⟩
    · rw [if_neg g]
      exact ⟨_, _, _, rfl, by omega, by omega⟩

/-! ### twist -/
theorem of_ok (k : Nat) (s : List Int) (p : Int) (t : List ByteArray) (ht : 1 ≤ t.length) (hz : ∀ u ∈ t, u.size ≤ 100) (ht' : t.length ≤ 1000) (hk : 1 ≤ k) (hs : Ok s) (hp : 0 ≤ p) (hp' : p ≤ 10000) : ∃ u, spec_l6Rd_of.f k s p t = some (u, p + 1) ∧ u.size ≤ 100 := by
  unfold spec_l6Rd_of.f
  obtain ⟨r, e, a, b, c⟩ := pick_ok k s p (t.length : Int) hk hs hp (by omega)
  have hr := b (by omega)
  rw [e]; simp only [Option.bind_some]
  rw [if_pos a, if_pos hr]
  refine ⟨_, rfl, ?_⟩
  unfold rdOf
  rw [List.getD_eq_getElem?_getD]
  cases g : t[r.toNat]? with
  | none => simp
  | some u => simpa using hz u (List.mem_of_getElem? g)
theorem twist_ok (k : Nat) (s : List Int) (p : Int) (x : ByteArray) (t : List ByteArray) (hx : x.size ≤ 1000) (ht : 1 ≤ t.length) (hz : ∀ u ∈ t, u.size ≤ 100) (ht' : t.length ≤ 1000) (hk : 2 ≤ k) (hs : Ok s) (hp : 0 ≤ p) (hp' : p ≤ 9000) :
    ∃ u q, spec_l91Twist.f k s p x t = some (u, q) ∧ u.size ≤ 2100 := by
  obtain ⟨k, rfl⟩ : ∃ r, k = r + 1 := ⟨k - 1, by omega⟩
  unfold spec_l91Twist.f
  by_cases h : (x.size : Int) > 0
  · obtain ⟨r1, e1, a1, b1, c1⟩ := pick_ok (k + 1) s p 3 (by omega) hs hp (by omega)
    rw [if_pos h, e1]; simp only [Option.bind_some, spec_l91Twist.j0]
    by_cases g : (r1 == 0) = true
    · rw [if_pos g]
      obtain ⟨r2, e2, a2, b2, c2⟩ := pick_ok k s (p + 1) (x.size : Int) (by omega) hs (by omega) (by omega)
      have hr2 := b2 (by omega)
      obtain ⟨u, e3, z3⟩ := of_ok k s (p + 1 + 1) t ht hz ht' (by omega) hs (by omega) (by omega)
      obtain ⟨r4, e4, a4, b4, c4⟩ := pick_ok k s (p + 1 + 1 + 1) 2 (by omega) hs (by omega) (by omega)
      have hr4 := b4 (by omega)
      have w : wrap64 (r2 + r4) = r2 + r4 := w_ _ (by omega) (by omega)
      have z1 : (x.extract 0 r2.toNat).size ≤ 1000 := by rw [ByteArray.size_extract]; omega
      have z2 : (x.extract (r2 + r4).toNat x.size).size ≤ 1000 := by rw [ByteArray.size_extract]; omega
      rw [e2]; simp only [Option.bind_some]
      rw [if_pos a2, if_pos (by omega), e3]; simp only [Option.bind_some]
      rw [if_pos (by omega), e4]; simp only [Option.bind_some, w]
      rw [if_pos (by omega), if_pos (by omega), if_pos (by rw [ByteArray.size_append]; omega)]
      exact ⟨_, _, rfl, by rw [ByteArray.size_append, ByteArray.size_append]; omega⟩
    · rw [if_neg g]
      exact ⟨_, _, rfl, by omega⟩
  · rw [if_neg h]
    simp only [spec_l91Twist.j0]
    rw [if_neg (by simp)]
    exact ⟨_, _, rfl, by omega⟩

/-! ### kat -/
theorem k_av (n u : Int) : spec_AmountValid.f n u = some (decide ((0 ≤ n ∧ n ≤ 9999) ∧ (1 ≤ u ∧ u ≤ 3))) := by
  unfold spec_AmountValid.f
  rw [k_in]
  by_cases h : 0 ≤ n ∧ n ≤ 9999
  · simp [h, k_in]
  · simp [h]
theorem one_byte (n : Nat) (h : n ≤ 9) : strOfNums [(wrap64 (48 + (n : Int))) % 256] = ⟨[UInt8.ofNat (48 + n)].toArray⟩ := by
  have e : (wrap64 (48 + (n : Int))) % 256 = ((UInt8.ofNat (48 + n)).toNat : Int) := by rw [w_ _ (by omega) (by omega), o48 n h]; omega
  rw [e]
  exact Go.Lib.Lz.strOfNums_map [UInt8.ofNat (48 + n)]
theorem l6dec (k : Nat) : ∀ n : Nat, n < 10 ^ (k + 1) → n ≤ 9999 → spec_l6Dec.f (k + 1) (n : Int) = some ⟨(Lib.decDigits n).toArray⟩ := by
  induction k with
  | zero =>
    intro n h hn
    rw [spec_l6Dec.f, if_neg (by omega), if_neg (by omega), if_pos (by simp at h; omega), one_byte n (by simp at h; omega), Lib.decDigits_one (by simp at h; omega)]
  | succ k ih =>
    intro n h hn
    rw [spec_l6Dec.f, if_neg (by omega), if_neg (by omega)]
    by_cases c : n < 10
    · rw [if_pos (by omega), one_byte n (by omega), Lib.decDigits_one c]
    · have hd : Int.tdiv (n : Int) 10 = ((n / 10 : Nat) : Int) := by rw [Int.tdiv_eq_ediv_of_nonneg (by omega)]; omega
      have hm : Int.tmod (n : Int) 10 = ((n % 10 : Nat) : Int) := by rw [Int.tmod_eq_emod_of_nonneg (by omega)]; omega
      have l1 : (Lib.decDigits (n / 10)).length ≤ 4 := by rw [dec_dg _ (by omega)]; exact dg_len _
      rw [if_neg (by omega), hd, w_ _ (by omega) (by omega), ih (n / 10) (by rw [Nat.pow_succ] at h; omega) (by omega), Option.bind_some, hm]
      simp only [Option.bind_some]
      rw [one_byte (n % 10) (by omega), mk_size, mk_size, if_pos (by simp; omega), app_mk]
      conv => rhs; rw [Lib.decDigits, dif_neg c]
theorem k_at (n u : Int) (k : Nat) (hk : 4 ≤ k) : spec_AmountText.f k n u = some (AX n u) := by
  unfold spec_AmountText.f AX
  rw [k_av, Option.bind_some]
  by_cases h : (0 ≤ n ∧ n ≤ 9999) ∧ (1 ≤ u ∧ u ≤ 3)
  · obtain ⟨m, rfl⟩ := Int.eq_ofNat_of_zero_le h.1.1
    have l1 := dg_len m
    have l2 := ul_len u
    obtain ⟨j, rfl⟩ : ∃ j, k = j + 1 := ⟨k - 1, by omega⟩
    have hp : 10 ^ 4 ≤ 10 ^ (j + 1) := Nat.pow_le_pow_right (by omega) hk
    rw [if_pos h, if_pos (decide_eq_true h), l6dec j m (by omega) (by omega), Option.bind_some, k_ut u h.2, Option.bind_some, dec_dg m (by omega), mk_size, mk_size, if_pos (by omega), app_mk, Int.toNat_natCast]
  · rw [if_neg h, if_neg (by rw [decide_eq_false h]; simp)]

/-! ### daparse -/
theorem dap_ok (k : Nat) (l : List Int) (hk : 20 ≤ k) (hl : ∀ x ∈ l, (Lit.int .u8 x).wf = true) : ∃ x, spec_DrawAmountParse.f k l = some x ∧ x.size ≤ 2100 := by
  unfold spec_DrawAmountParse.f
  obtain ⟨s, es, hs⟩ := open_ok l hl
  obtain ⟨n, u, q, h, q0, q1⟩ := amount_ok k s 0 (by omega) hs (by omega) (by omega)
  have hz : (AX n u).size ≤ 1000 := by
    unfold AX
    split
    · have l1 := dg_len n.toNat
      have l2 := ul_len u
      show (dg n.toNat ++ UL u).length ≤ 1000
      rw [List.length_append]
      omega
    · exact show (0 : Nat) ≤ 1000 by omega
  obtain ⟨y, p, e, hy⟩ := twist_ok k s q (AX n u) [(⟨#[]⟩ : ByteArray), (⟨#[48]⟩ : ByteArray), (⟨#[49]⟩ : ByteArray), (⟨#[103]⟩ : ByteArray), (⟨#[109, 108]⟩ : ByteArray), (⟨#[120]⟩ : ByteArray), (⟨#[32]⟩ : ByteArray)] hz (by simp) (by intro u hu; simp at hu; rcases hu with rfl | rfl | rfl | rfl | rfl | rfl | rfl <;> decide) (by simp) (by omega) hs (by omega) (by omega)
  rw [es]; simp only [Option.bind_some]
  rw [h]; simp only [Option.bind_some]
  rw [k_at _ _ _ (by omega)]; simp only [Option.bind_some]
  rw [e]
  exact ⟨_, rfl, hy⟩

theorem dg_head (n : Nat) (h : n ≤ 9999) : ∃ c l, dg n = c :: l ∧ 48 ≤ c.toNat ∧ c.toNat ≤ 57 ∧ (c.toNat = 48 → n = 0 ∧ l = []) := by
  have hd := dg_isD n h
  unfold dg at hd ⊢
  by_cases h1 : n < 10
  · rw [if_pos h1]
    exact ⟨_, _, rfl, by rw [o48 n (by omega)]; omega, by rw [o48 n (by omega)]; omega, fun e => by rw [o48 n (by omega)] at e; exact ⟨by omega, rfl⟩⟩
  · rw [if_neg h1]
    by_cases h2 : n < 100
    · rw [if_pos h2]
      exact ⟨_, _, rfl, by rw [o48 _ (by omega)]; omega, by rw [o48 _ (by omega)]; omega, fun e => by rw [o48 _ (by omega)] at e; omega⟩
    · rw [if_neg h2]
      by_cases h3 : n < 1000
      · rw [if_pos h3]
        exact ⟨_, _, rfl, by rw [o48 _ (by omega)]; omega, by rw [o48 _ (by omega)]; omega, fun e => by rw [o48 _ (by omega)] at e; omega⟩
      · rw [if_neg h3]
        exact ⟨_, _, rfl, by rw [o48 _ (by omega)]; omega, by rw [o48 _ (by omega)]; omega, fun e => by rw [o48 _ (by omega)] at e; omega⟩
theorem ul_head (u : Int) : ∃ c l, UL u = c :: l ∧ 58 ≤ c.toNat := by
  unfold UL
  repeat' split
  all_goals exact ⟨_, _, rfl, by decide⟩
theorem app_list (a b : ByteArray) : (a ++ b).data.toList = a.data.toList ++ b.data.toList := by
  rw [ByteArray.data_append, Array.toList_append]
theorem zero_no (x : ByteArray) (n : Nat) (u : Int) (h : isA x n u) : ∀ m v, ¬ isA ((⟨#[48]⟩ : ByteArray) ++ x) m v := by
  rintro m v ⟨hm, hv, e⟩
  obtain ⟨hn, hu, hx⟩ := h
  rw [app_list, hx] at e
  obtain ⟨c, l, hc, _, _, h0⟩ := dg_head m hm
  obtain ⟨d, r, hd, d0, d1, _⟩ := dg_head n hn
  obtain ⟨f, g, hf, f0⟩ := ul_head v
  rw [hc, hd] at e
  simp only [List.cons_append, List.nil_append, List.cons.injEq] at e
  obtain ⟨e1, e2⟩ := e
  have hz := (h0 (by rw [← e1]; rfl)).2
  rw [hz, hf] at e2
  simp only [List.nil_append, List.cons.injEq] at e2
  have := congrArg UInt8.toNat e2.1
  omega
theorem blank_no (x : ByteArray) : ∀ m v, ¬ isA ((⟨#[32]⟩ : ByteArray) ++ x) m v := by
  rintro m v ⟨hm, hv, e⟩
  rw [app_list] at e
  obtain ⟨c, l, hc, c0, _⟩ := dg_head m hm
  rw [hc] at e
  simp only [List.cons_append, List.nil_append, List.cons.injEq] at e
  have := congrArg UInt8.toNat e.1
  have h32 : (32 : UInt8).toNat = 32 := rfl
  omega
theorem gram_no (x : ByteArray) (n : Nat) (u : Int) (h : isA x n u) : ∀ m v, ¬ isA (x ++ (⟨#[103]⟩ : ByteArray)) m v := by
  rintro m v ⟨hm, hv, e⟩
  obtain ⟨hn, hu, hx⟩ := h
  rw [app_list, hx] at e
  have hv1 : v = 1 := by
    have := unit_eq (dg n ++ UL u) (dg m) 1 v (by omega) hv e
    exact this.symm
  subst hv1
  have e2 : dg n ++ UL u = dg m := List.append_cancel_right (bs := [103]) e
  obtain ⟨l, c, hl, hc, _⟩ := ul_last u
  have hmem : c ∈ dg m := by
    rw [← e2, hl]
    simp
  have := (isD_iff c).1 (dg_isD m hm c hmem)
  omega
theorem FnAmountParseBad (l : List Int) (_ : l.length ≤ maxLen) (hl : ∀ x ∈ l, (Lit.int .u8 x).wf = true) : ∃ k, laws_FnAmountParseBad.f k l = some true := by
  refine ⟨40, ?_⟩
  unfold laws_FnAmountParseBad.f
  by_cases c : (l.length : Int) > 1048576
  · rw [if_pos c]
  · obtain ⟨x, e, hx⟩ := dap_ok 40 l (by omega) hl
    rw [if_neg c, e, Option.bind_some]
    have z1 : ((⟨#[48]⟩ : ByteArray) ++ x).size = 1 + x.size := by rw [ByteArray.size_append]; rfl
    have z2 : ((⟨#[32]⟩ : ByteArray) ++ x).size = 1 + x.size := by rw [ByteArray.size_append]; rfl
    have z3 : (x ++ (⟨#[103]⟩ : ByteArray)).size = x.size + 1 := by rw [ByteArray.size_append]; rfl
    rcases ap_either x with ⟨n, u, h⟩ | h
    · rw [i_ap_hit x (by omega) n u h 40 (by omega), k_ap_hit x (by omega) n u h 40 (by omega)]
      simp only [Option.bind_some]
      rw [if_neg (by simp), if_neg (by simp)]
      show laws_FnAmountParseBad.j0 (39 + 1) _ _ _ _ _ _ _ _ = _
      simp only [laws_FnAmountParseBad.j0]
      rw [if_neg (by simp), if_pos (by omega), i_ap_miss _ (by omega) (zero_no x n u h) 39 (by omega), Option.bind_some, i_ap_miss _ (by omega) (blank_no x) 39 (by omega), Option.bind_some, if_pos (by omega), i_ap_miss _ (by omega) (gram_no x n u h) 39 (by omega)]
      simp
    · rw [i_ap_miss x (by omega) h 40 (by omega), k_ap_miss x (by omega) h 40 (by omega)]
      simp only [Option.bind_some]
      rw [if_neg (by simp), if_neg (by simp)]
      show laws_FnAmountParseBad.j0 (39 + 1) _ _ _ _ _ _ _ _ = _
      simp only [laws_FnAmountParseBad.j0]
      simp

end Go.Proofs.YtdedhnlgjegbhaaDoor.Pure
