/- FnFoodsPlants answers true at every list of bytes. -/
import Derived.Test.YtmdcfgcbiegofaaQFnFoodsPlants
import Derived.Laws.BitsLemmas
namespace Go.Proofs.Ytmdcfgcbiegofaa.Pure
open Go.RowKit Go.Proofs.Ytmdcfgcbiegofaa.PFnFoodsPlants Go.Proofs.YtmdcfgcbiegofaaW.PrintWords Go.Proofs.YtmdcfgcbiegofaaW.PrintLast
set_option linter.unusedSimpArgs false
set_option linter.unusedVariables false

/-! ### core -/
theorem k_in (a b c : Int) : spec_l6In.f a b c = some (decide (b ≤ a ∧ a ≤ c)) := by
  unfold spec_l6In.f
  by_cases h : b ≤ a <;> simp [h]
theorem i_in (a b c : Int) : impl_within.f a b c = some (decide (b ≤ a ∧ a ≤ c)) := by
  unfold impl_within.f
  by_cases h : b ≤ a <;> simp [h]
theorem w_ (n : Int) (h : -9223372036854775808 ≤ n) (h' : n ≤ 9223372036854775807) : wrap64 n = n := by unfold wrap64; omega
theorem div_low (a b : Int) (hb : 0 < b) : (a / b) * b ≤ a := Int.ediv_mul_le a (by omega)
theorem div_high (a b : Int) (hb : 0 < b) : a < (a / b) * b + b := by
  have h := Int.lt_ediv_add_one_mul_self a hb
  rw [Int.add_mul] at h
  omega
theorem div_is (a b q : Int) (hb : 0 < b) (h1 : q * b ≤ a) (h2 : a < q * b + b) : a / b = q := by
  have h3 := Int.le_ediv_of_mul_le hb h1
  have h4 : a / b < q + 1 := Int.ediv_lt_of_lt_mul hb (by rw [Int.add_mul]; omega)
  omega

/-! ### fvdef -/
/-- The fields of a food are in their ranges. -/
def okF (s : S34) : Bool :=
  decide (1 ≤ s.f0 ∧ s.f0 ≤ 20) && (decide (1 ≤ s.f1 ∧ s.f1 ≤ 3) && (decide (0 ≤ s.f2 ∧ s.f2 ≤ 255) && (decide (1 ≤ s.f3 ∧ s.f3 ≤ 5) && (decide (0 ≤ s.f4 ∧ s.f4 ≤ 999) && decide (0 ≤ s.f5 ∧ s.f5 ≤ 999)))))
/-- Food j's number is greater than that of the food before it. -/
def ascF (l : List S34) (j : Nat) : Bool := decide (j = 0) || !decide ((rd_T34 l ((j - 1 : Nat) : Int)).f0 ≥ (rd_T34 l (j : Int)).f0)
/-- The foods from j on (d of them) are valid. -/
def FVf (l : List S34) : Nat → Nat → Bool
  | _, 0 => decide ((l.length : Int) ≤ 6)
  | j, d + 1 => okF (rd_T34 l (j : Int)) && (ascF l j && FVf l (j + 1) d)
/-- Foods are valid. -/
def FV (l : List S34) : Bool := FVf l 0 l.length

/-! ### fvfacts -/
theorem fvf_iff (l : List S34) : ∀ (d j : Nat), FVf l j d = true ↔ (∀ i, j ≤ i → i < j + d → okF (rd_T34 l (i : Int)) = true ∧ ascF l i = true) ∧ (l.length : Int) ≤ 6
  | 0, j => by
    simp only [FVf, decide_eq_true_eq]
    exact ⟨fun h => ⟨fun i _ _ => by omega, h⟩, fun h => h.2⟩
  | d + 1, j => by
    simp only [FVf, Bool.and_eq_true, fvf_iff l d (j + 1)]
    constructor
    · rintro ⟨a, b, c, e⟩
      refine ⟨fun i h1 h2 => ?_, e⟩
      by_cases g : i = j
      · subst g; exact ⟨a, b⟩
      · exact c i (by omega) (by omega)
    · rintro ⟨a, b⟩
      exact ⟨(a j (by omega) (by omega)).1, (a j (by omega) (by omega)).2, fun i h1 h2 => a i (by omega) (by omega), b⟩
theorem fv_iff (l : List S34) : FV l = true ↔ (∀ i, i < l.length → okF (rd_T34 l (i : Int)) = true ∧ (i = 0 ∨ (rd_T34 l ((i - 1 : Nat) : Int)).f0 < (rd_T34 l (i : Int)).f0)) ∧ l.length ≤ 6 := by
  unfold FV
  rw [fvf_iff]
  have asc : ∀ i, ascF l i = true ↔ (i = 0 ∨ (rd_T34 l ((i - 1 : Nat) : Int)).f0 < (rd_T34 l (i : Int)).f0) := by
    intro i
    simp [ascF]
  constructor
  · rintro ⟨a, b⟩
    exact ⟨fun i h => ⟨(a i (by omega) (by omega)).1, (asc i).1 (a i (by omega) (by omega)).2⟩, by omega⟩
  · rintro ⟨a, b⟩
    exact ⟨fun i _ h => ⟨(a i (by omega)).1, (asc i).2 (a i (by omega)).2⟩, by omega⟩
theorem rd_fd (l : List S34) (j : Nat) : rd_T34 l (j : Int) = (l[j]?).getD z34 := by
  simp [rd_T34, List.getD_eq_getElem?_getD]
theorem kd_in (l : List S34) (h : FV l = true) (i : Nat) (hi : i < l.length) : 1 ≤ (rd_T34 l (i : Int)).f3 ∧ (rd_T34 l (i : Int)).f3 ≤ 5 := by
  have a := (((fv_iff l).1 h).1 i hi).1
  simp only [okF, Bool.and_eq_true, decide_eq_true_eq] at a
  exact a.2.2.2.1

/-! ### pidef -/
/-- The first place from j on (d of them) at which a food has a number, -1 if there is none. -/
def PIf (l : List S34) (id : Int) : Nat → Nat → Int
  | _, 0 => -1
  | j, d + 1 => if (rd_T34 l (j : Int)).f0 = id then (j : Int) else PIf l id (j + 1) d
def PI (l : List S34) (id : Int) : Int := PIf l id 0 l.length
theorem pif_range (l : List S34) (id : Int) : ∀ d j, PIf l id j d = -1 ∨ ((j : Int) ≤ PIf l id j d ∧ PIf l id j d < ((j + d : Nat) : Int))
  | 0, j => .inl rfl
  | d + 1, j => by
    unfold PIf
    split
    · right; omega
    · rcases pif_range l id d (j + 1) with h | h
      · exact .inl h
      · right; omega
theorem pi_range (l : List S34) (id : Int) : PI l id = -1 ∨ (0 ≤ PI l id ∧ PI l id < (l.length : Int)) := by
  rcases pif_range l id l.length 0 with h | h
  · exact .inl h
  · right
    unfold PI
    omega
theorem pif_is (l : List S34) (id : Int) : ∀ d j, ∀ i : Nat, PIf l id j d = (i : Int) → (rd_T34 l (i : Int)).f0 = id
  | 0, j, i, h => by
    have : (-1 : Int) = (i : Int) := h
    omega
  | d + 1, j, i, h => by
    unfold PIf at h
    split at h
    · rename_i g
      rw [← h]; exact g
    · exact pif_is l id d (j + 1) i h
theorem pif_some (l : List S34) (id : Int) : ∀ d j, ∀ i : Nat, j ≤ i → i < j + d → (rd_T34 l (i : Int)).f0 = id → ∃ p : Nat, PIf l id j d = (p : Int) ∧ p ≤ i
  | 0, j, i, h0, h1, _ => by omega
  | d + 1, j, i, h0, h1, g => by
    unfold PIf
    split
    · exact ⟨j, rfl, h0⟩
    · rename_i c
      by_cases e : i = j
      · subst e; exact absurd g c
      · exact pif_some l id d (j + 1) i (by omega) (by omega) g
theorem fv_mono (l : List S34) (h : FV l = true) : ∀ d i : Nat, i + d + 1 < l.length → (rd_T34 l (i : Int)).f0 < (rd_T34 l ((i + d + 1 : Nat) : Int)).f0
  | 0, i, hi => by
    rcases (((fv_iff l).1 h).1 (i + 1) (by omega)).2 with e | e
    · omega
    · exact e
  | d + 1, i, hi => by
    have a := fv_mono l h d i (by omega)
    rcases (((fv_iff l).1 h).1 (i + (d + 1) + 1) (by omega)).2 with e | e
    · omega
    · exact Int.lt_trans a e
theorem pi_at (l : List S34) (h : FV l = true) (id : Int) (i : Nat) (hi : i < l.length) (g : (rd_T34 l (i : Int)).f0 = id) : PI l id = (i : Int) := by
  obtain ⟨p, e, hp⟩ := pif_some l id l.length 0 i (by omega) (by omega) g
  have ep := pif_is l id l.length 0 p e
  by_cases c : p = i
  · unfold PI; rw [e, c]
  · have m := fv_mono l h (i - p - 1) p (by omega)
    rw [show p + (i - p - 1) + 1 = i by omega, ep, g] at m
    omega

/-! ### wldef -/
/-- The kind of the food with a number. -/
def KD (l : List S34) (id : Int) : Int := (rd_T34 l (PI l id)).f3
/-- The greatest of a number and the kinds of foods, -1 if one is not there. -/
def WL (l : List S34) : List Int → Int → Int
  | [], a => a
  | id :: t, a => if PI l id < 0 then -1 else WL l t (mx a (KD l id))
theorem mx_le (a b : Int) : a ≤ mx a b ∧ b ≤ mx a b ∧ (mx a b = a ∨ mx a b = b) := by unfold mx; split <;> omega
theorem wl_facts (l : List S34) : ∀ (t : List Int) (a : Int), 0 ≤ a → WL l t a = -1 ∨ (a ≤ WL l t a ∧ (∀ id ∈ t, 0 ≤ PI l id ∧ KD l id ≤ WL l t a) ∧ (WL l t a = a ∨ ∃ id ∈ t, KD l id = WL l t a))
  | [], a, _ => .inr ⟨Int.le_refl _, fun id h => by simp at h, .inl rfl⟩
  | id :: t, a, ha => by
    unfold WL
    by_cases c : PI l id < 0
    · rw [if_pos c]; exact .inl rfl
    · rw [if_neg c]
      obtain ⟨m0, m1, m2⟩ := mx_le a (KD l id)
      rcases wl_facts l t (mx a (KD l id)) (by omega) with h | ⟨h0, h1, h2⟩
      · exact .inl h
      · right
        refine ⟨by omega, fun x hx => ?_, ?_⟩
        · rcases List.mem_cons.1 hx with e | e
          · subst e; exact ⟨by omega, by omega⟩
          · exact h1 x e
        · rcases h2 with e | ⟨x, hx, e⟩
          · rcases m2 with g | g
            · exact .inl (by omega)
            · exact .inr ⟨id, List.mem_cons_self, by omega⟩
          · exact .inr ⟨x, List.mem_cons_of_mem _ hx, e⟩
/-- The greatest kind of foods; -1 if one is not there or the foods are invalid. -/
def WO (l : List S34) (t : List Int) : Int := if FV l = true then WL l t 0 else -1

/-! ### pii -/
theorem i_pi_loop (l : List S34) (hl : l.length ≤ 1048576) (id : Int) : ∀ (d k j : Nat), j + d = l.length → d < k → impl_foodPlace.l0 k l id (j : Int) = some (PIf l id j d)
  | 0, k, j, hj, hk => by
    obtain ⟨k, rfl⟩ : ∃ r, k = r + 1 := ⟨k - 1, by omega⟩
    simp only [impl_foodPlace.l0]
    rw [if_neg (by omega)]
    rfl
  | d + 1, k, j, hj, hk => by
    obtain ⟨k, rfl⟩ : ∃ r, k = r + 1 := ⟨k - 1, by omega⟩
    have e : wrap64 ((j : Int) + 1) = ((j + 1 : Nat) : Int) := by rw [w_ _ (by omega) (by omega)]; omega
    simp only [impl_foodPlace.l0]
    rw [if_pos (by omega), if_pos (by omega), e]
    unfold PIf
    by_cases c : (rd_T34 l (j : Int)).f0 = id
    · rw [if_pos c, if_pos c]
    · rw [if_neg c, if_neg c]
      exact i_pi_loop l hl id d k (j + 1) (by omega) (by omega)
theorem i_pi (l : List S34) (hl : l.length ≤ 1048576) (id : Int) (k : Nat) (hk : l.length < k) : impl_foodPlace.f k l id = some (PI l id) :=
  i_pi_loop l hl id l.length k 0 (by omega) hk

/-! ### iset -/
theorem i_set (a : Int) : impl_isSet.f a = some (decide (0 ≤ a ∧ a ≤ 255)) := by
  unfold impl_isSet.f
  rw [i_in]; rfl

/-! ### fvali -/
theorem tailF (k : Nat) (l : List S34) (hl : l.length ≤ 1048576) (j d : Nat) (hj : j < l.length) (h : impl_FoodsValid.l0 k l l (l.length : Int) ((j + 1 : Nat) : Int) = some (FVf l (j + 1) d)) :
    (if (j : Int) > 0 then (if 0 ≤ (wrap64 ((j : Int) - 1)) then (if (wrap64 ((j : Int) - 1)) < (l.length : Int) then (if ((rd_T34 l (wrap64 ((j : Int) - 1))).f0) ≥ ((rd_T34 l (j : Int)).f0) then (some false) else (impl_FoodsValid.l0 k l l (l.length : Int) (wrap64 ((j : Int) + 1)))) else (none)) else (none)) else (impl_FoodsValid.l0 k l l (l.length : Int) (wrap64 ((j : Int) + 1)))) = some (ascF l j && FVf l (j + 1) d) := by
  have e : wrap64 ((j : Int) + 1) = ((j + 1 : Nat) : Int) := by rw [w_ _ (by omega) (by omega)]; omega
  rw [e, h]
  unfold ascF
  by_cases c : j = 0
  · rw [if_neg (by omega)]; simp [c]
  · have e' : wrap64 ((j : Int) - 1) = ((j - 1 : Nat) : Int) := by rw [w_ _ (by omega) (by omega)]; omega
    rw [if_pos (by omega), e', if_pos (by omega), if_pos (by omega)]
    by_cases g : (rd_T34 l ((j - 1 : Nat) : Int)).f0 ≥ (rd_T34 l (j : Int)).f0
    · rw [if_pos g, decide_eq_true g]; simp [c]
    · rw [if_neg g, decide_eq_false g]; simp [c]
theorem ifv_loop (l : List S34) (hl : l.length ≤ 1048576) : ∀ (d k j : Nat), j + d = l.length → d < k → impl_FoodsValid.l0 k l l (l.length : Int) (j : Int) = some (FVf l j d)
  | 0, k, j, hj, hk => by
    obtain ⟨k, rfl⟩ : ∃ r, k = r + 1 := ⟨k - 1, by omega⟩
    simp only [impl_FoodsValid.l0]
    rw [if_neg (by omega)]
    rfl
  | d + 1, k, j, hj, hk => by
    obtain ⟨k, rfl⟩ : ∃ r, k = r + 1 := ⟨k - 1, by omega⟩
    have r := ifv_loop l hl d k (j + 1) (by omega) (by omega)
    have J := tailF k l hl j d (by omega) r
    simp only [impl_FoodsValid.l0, impl_isId.f, impl_isKind.f, i_in, i_set, Option.bind_some]
    rw [if_pos (by omega), if_pos (by omega), if_pos (by omega), J]
    simp only [FVf, okF]
    generalize decide (1 ≤ (rd_T34 l (j : Int)).f0 ∧ (rd_T34 l (j : Int)).f0 ≤ 20) = b0
    generalize decide (1 ≤ (rd_T34 l (j : Int)).f1 ∧ (rd_T34 l (j : Int)).f1 ≤ 3) = b1
    generalize decide (0 ≤ (rd_T34 l (j : Int)).f2 ∧ (rd_T34 l (j : Int)).f2 ≤ 255) = b2
    generalize decide (1 ≤ (rd_T34 l (j : Int)).f3 ∧ (rd_T34 l (j : Int)).f3 ≤ 5) = b3
    generalize decide (0 ≤ (rd_T34 l (j : Int)).f4 ∧ (rd_T34 l (j : Int)).f4 ≤ 999) = b4
    generalize decide (0 ≤ (rd_T34 l (j : Int)).f5 ∧ (rd_T34 l (j : Int)).f5 ≤ 999) = b5
    generalize (ascF l j && FVf l (j + 1) d) = R
    cases b0 <;> cases b1 <;> cases b2 <;> cases b3 <;> cases b4 <;> cases b5 <;> rfl
theorem i_fv (l : List S34) (hl : l.length ≤ 1048576) (k : Nat) (hk : l.length < k) : impl_FoodsValid.f k l = some (FV l) :=
  ifv_loop l hl l.length k 0 (by omega) hk

/-! ### wli -/
theorem i_wl_loop (l : List S34) (hl : l.length ≤ 1048576) (t : List Int) (ht : t.length ≤ 1048576) : ∀ (d k j : Nat) (a : Int), j + d = t.length → d + l.length < k →
    impl_FoodsWorst.l0 k l a t (t.length : Int) (j : Int) = some (WL l (t.drop j) a)
  | 0, k, j, a, hj, hk => by
    obtain ⟨k, rfl⟩ : ∃ r, k = r + 1 := ⟨k - 1, by omega⟩
    rw [List.drop_of_length_le (by omega)]
    simp only [impl_FoodsWorst.l0]
    rw [if_neg (by omega)]
    rfl
  | d + 1, k, j, a, hj, hk => by
    obtain ⟨k, rfl⟩ : ∃ r, k = r + 1 := ⟨k - 1, by omega⟩
    have e : wrap64 ((j : Int) + 1) = ((j + 1 : Nat) : Int) := by rw [w_ _ (by omega) (by omega)]; omega
    have hj' : j < t.length := by omega
    have g : rd t (j : Int) = t[j] := by simp [rd, hj']
    rw [List.drop_eq_getElem_cons hj']
    simp only [impl_FoodsWorst.l0]
    rw [if_pos (by omega), if_pos (by omega), if_pos (by omega), g, i_pi l hl _ k (by omega), e]
    simp only [Option.bind_some, WL]
    rcases pi_range l t[j] with p | p
    · rw [if_pos (by omega), if_pos (by omega)]
    · rw [if_neg (by omega), if_pos p.1, if_pos p.2, if_neg (by omega)]
      exact i_wl_loop l hl t ht d k (j + 1) _ (by omega) (by omega)
theorem i_wo (l : List S34) (hl : l.length ≤ 1048576) (t : List Int) (ht : t.length ≤ 1048576) (k : Nat) (hk : 2 * l.length + t.length < k) : impl_FoodsWorst.f k l t = some (WO l t) := by
  unfold impl_FoodsWorst.f WO
  rw [i_fv l hl k (by omega)]
  simp only [Option.bind_some]
  cases FV l with
  | false => simp
  | true =>
    simp only [if_true]
    have h := i_wl_loop l hl t ht t.length k 0 0 (by omega) (by omega)
    rw [List.drop_zero] at h
    exact h

/-! ### ffdef -/
/-- The place of a food, -1 if there is none or the foods are invalid. -/
def FF (l : List S34) (id : Int) : Int := if FV l = true then PI l id else -1

/-! ### ifind -/
theorem i_ff (l : List S34) (hl : l.length ≤ 1048576) (id : Int) (k : Nat) (hk : l.length < k) : impl_FoodsFind.f k l id = some (FF l id) := by
  unfold impl_FoodsFind.f FF
  rw [i_fv l hl k hk, i_pi l hl id k hk]
  cases FV l <;> simp

/-! ### pik -/
theorem k_pi_loop (l : List S34) (hl : l.length ≤ 1048576) (id : Int) : ∀ (d k j : Nat), j + d = l.length → d < k → spec_l5Find.l0 k l id (j : Int) = some (PIf l id j d)
  | 0, k, j, hj, hk => by
    obtain ⟨k, rfl⟩ : ∃ r, k = r + 1 := ⟨k - 1, by omega⟩
    simp only [spec_l5Find.l0]
    rw [if_neg (by omega)]
    rfl
  | d + 1, k, j, hj, hk => by
    obtain ⟨k, rfl⟩ : ∃ r, k = r + 1 := ⟨k - 1, by omega⟩
    have e : wrap64 ((j : Int) + 1) = ((j + 1 : Nat) : Int) := by rw [w_ _ (by omega) (by omega)]; omega
    simp only [spec_l5Find.l0]
    rw [if_pos (by omega), if_pos (by omega), e]
    unfold PIf
    by_cases c : (rd_T34 l (j : Int)).f0 = id
    · rw [if_pos c, if_pos c]
    · rw [if_neg c, if_neg c]
      exact k_pi_loop l hl id d k (j + 1) (by omega) (by omega)
theorem k_pi (l : List S34) (hl : l.length ≤ 1048576) (id : Int) (k : Nat) (hk : l.length < k) : spec_l5Find.f k l id = some (PI l id) :=
  k_pi_loop l hl id l.length k 0 (by omega) hk

/-! ### kset -/
theorem k_set (a : Int) : spec_l3Set.f a = some (decide (0 ≤ a ∧ a ≤ 255)) := by
  unfold spec_l3Set.f
  rw [k_in]; rfl

/-! ### fval -/
theorem fj (k : Nat) (l : List S34) (hl : l.length ≤ 1048576) (j d : Nat) (hj : j < l.length) (b : Bool) (h : spec_FoodsValid.l0 k l ((j + 1 : Nat) : Int) = some (FVf l (j + 1) d)) (a1 a2 a3 a4 a5 : Int) :
    spec_FoodsValid.j1 (k + 1) l (j : Int) b (rd_T34 l (j : Int)).f0 a1 a2 a3 a4 a5 = some (!b && (ascF l j && FVf l (j + 1) d)) := by
  have e : wrap64 ((j : Int) + 1) = ((j + 1 : Nat) : Int) := by rw [w_ _ (by omega) (by omega)]; omega
  simp only [spec_FoodsValid.j1]
  cases b with
  | true => simp
  | false =>
    rw [if_neg (by simp), e, h]
    unfold ascF
    by_cases c : j = 0
    · rw [if_neg (by omega)]; simp [c]
    · have e' : wrap64 ((j : Int) - 1) = ((j - 1 : Nat) : Int) := by rw [w_ _ (by omega) (by omega)]; omega
      rw [if_pos (by omega), e', if_pos (by omega), if_pos (by omega)]
      by_cases g : (rd_T34 l ((j - 1 : Nat) : Int)).f0 ≥ (rd_T34 l (j : Int)).f0
      · rw [if_pos g, decide_eq_true g]; simp [c]
      · rw [if_neg g, decide_eq_false g]; simp [c]
theorem kfv_loop (l : List S34) (hl : l.length ≤ 1048576) : ∀ (d k j : Nat), j + d = l.length → 2 * d < k → spec_FoodsValid.l0 k l (j : Int) = some (FVf l j d)
  | 0, k, j, hj, hk => by
    obtain ⟨k, rfl⟩ : ∃ r, k = r + 1 := ⟨k - 1, by omega⟩
    simp only [spec_FoodsValid.l0]
    rw [if_neg (by omega)]
    rfl
  | d + 1, k, j, hj, hk => by
    obtain ⟨k, rfl⟩ : ∃ r, k = r + 1 + 1 := ⟨k - 2, by omega⟩
    have r := kfv_loop l hl d k (j + 1) (by omega) (by omega)
    have J := fun b a1 a2 a3 a4 a5 => fj k l hl j d (by omega) b r a1 a2 a3 a4 a5
    simp only [spec_FoodsValid.l0, k_in, k_set, Option.bind_some]
    rw [if_pos (by omega), if_pos (by omega)]
    simp only [J]
    simp only [FVf, okF]
    generalize decide (1 ≤ (rd_T34 l (j : Int)).f0 ∧ (rd_T34 l (j : Int)).f0 ≤ 20) = b0
    generalize decide (1 ≤ (rd_T34 l (j : Int)).f1 ∧ (rd_T34 l (j : Int)).f1 ≤ 3) = b1
    generalize decide (0 ≤ (rd_T34 l (j : Int)).f2 ∧ (rd_T34 l (j : Int)).f2 ≤ 255) = b2
    generalize decide (1 ≤ (rd_T34 l (j : Int)).f3 ∧ (rd_T34 l (j : Int)).f3 ≤ 5) = b3
    generalize decide (0 ≤ (rd_T34 l (j : Int)).f4 ∧ (rd_T34 l (j : Int)).f4 ≤ 999) = b4
    generalize decide (0 ≤ (rd_T34 l (j : Int)).f5 ∧ (rd_T34 l (j : Int)).f5 ≤ 999) = b5
    generalize (ascF l j && FVf l (j + 1) d) = R
    cases b0 <;> cases b1 <;> cases b2 <;> cases b3 <;> cases b4 <;> cases b5 <;> rfl
theorem k_fv (l : List S34) (hl : l.length ≤ 1048576) (k : Nat) (hk : 2 * l.length < k) : spec_FoodsValid.f k l = some (FV l) :=
  kfv_loop l hl l.length k 0 (by omega) hk

/-! ### kfind -/
theorem k_ff (l : List S34) (hl : l.length ≤ 1048576) (id : Int) (k : Nat) (hk : 2 * l.length < k) : spec_FoodsFind.f k l id = some (FF l id) := by
  unfold spec_FoodsFind.f FF
  rw [k_fv l hl k hk, k_pi l hl id k (by omega)]
  cases FV l <;> simp

/-! ### find -/


/-! ### pick -/
/-- What a reader of draws holds: at most 2000 bytes. -/
def Ok (s : List Int) : Prop := s.length ≤ 2000 ∧ ∀ x ∈ s, 0 ≤ x ∧ x ≤ 255
theorem rd_ok {s : List Int} (h : Ok s) (i : Int) : 0 ≤ rd s i ∧ rd s i ≤ 255 := by
  unfold rd
  rw [List.getD_eq_getElem?_getD]
  cases e : s[i.toNat]? with
  | none => simp
  | some x => simpa using h.2 x (List.mem_of_getElem? e)
theorem xor_nonneg (x y : Int) (hx : 0 ≤ x) (hx' : x < 9223372036854775808) (hy : 0 ≤ y) (hy' : y < 9223372036854775808) : 0 ≤ Go.bits .xor .i64 x y := by
  obtain ⟨a, rfl⟩ := Int.eq_ofNat_of_zero_le hx
  obtain ⟨b, rfl⟩ := Int.eq_ofNat_of_zero_le hy
  have ha : a < 2 ^ 63 := by omega
  have hb : b < 2 ^ 63 := by omega
  have hc := Nat.xor_lt_two_pow ha hb
  have e1 : a % 2 ^ IntKind.i64.bits = a := Nat.mod_eq_of_lt (Nat.lt_of_lt_of_le ha (Nat.pow_le_pow_right (by decide) (by decide)))
  have e2 : b % 2 ^ IntKind.i64.bits = b := Nat.mod_eq_of_lt (Nat.lt_of_lt_of_le hb (Nat.pow_le_pow_right (by decide) (by decide)))
  simp only [Go.bits, BitVec.ofInt_natCast, BitVec.toNat_xor, BitVec.toNat_ofNat, e1, e2]
  rw [Go.IntKind.wrap_i64]
  omega
theorem pick_ok (k : Nat) (s : List Int) (p n : Int) (hk : 1 ≤ k) (hs : Ok s) (hp : 0 ≤ p) (hp' : p ≤ 1000000) :
    ∃ r, spec_l6Rd_pick.f k s p n = some (r, p + 1) ∧ 0 ≤ r ∧ (1 ≤ n → r < n) ∧ (n < 1 → r = 0) := by
  obtain ⟨k, rfl⟩ : ∃ m, k = m + 1 := ⟨k - 1, by omega⟩
  unfold spec_l6Rd_pick.f
  have e : wrap64 (p + 1) = p + 1 := w_ _ (by omega) (by omega)
  have e' : wrap64 (p + 1 - 1) = p := by rw [w_ _ (by omega) (by omega)]; omega
  rw [e]
  by_cases hn : n < 1
  · rw [if_pos hn]
    refine ⟨0, ?_, by omega, by omega, by omega⟩
    simp [spec_l6Rd_pick.j0]
  · rw [if_neg hn]
    by_cases hl : (s.length : Int) = 0
    · rw [beq_iff_eq.mpr hl]
      refine ⟨0, ?_, by omega, by omega, by omega⟩
      simp [spec_l6Rd_pick.j0]
    · rw [beq_eq_false_iff_ne.mpr hl]
      have hl' : (s.length : Int) ≤ 2000 := by have := hs.1; omega
      simp only [spec_l6Rd_pick.j0, e']
      rw [if_neg (by simp)]
      by_cases c : p < (s.length : Int)
      · rw [if_pos c, if_pos hp, if_neg (by omega)]
        obtain ⟨r0, r1⟩ := rd_ok hs p
        rw [w_ (rd s p) (by omega) (by omega)]
        exact ⟨_, rfl, Int.tmod_nonneg _ r0, fun _ => Int.tmod_lt_of_pos _ (by omega), by omega⟩
      · have a1 := Int.tmod_nonneg (s.length : Int) hp
        have a2 := Int.tmod_lt_of_pos p (b := (s.length : Int)) (by omega)
        have a3 : wrap64 (wrap64 (p * 7) + 3) = p * 7 + 3 := by rw [w_ (p * 7) (by omega) (by omega), w_ _ (by omega) (by omega)]
        have a4 := Int.tmod_nonneg (s.length : Int) (a := p * 7 + 3) (by omega)
        have a5 := Int.tmod_lt_of_pos (p * 7 + 3) (b := (s.length : Int)) (by omega)
        rw [if_neg c, if_neg hl, if_pos a1, if_pos a2, a3, if_pos a4, if_pos a5, if_neg (by omega)]
        obtain ⟨r0, r1⟩ := rd_ok hs (Int.tmod p (s.length : Int))
        obtain ⟨q0, q1⟩ := rd_ok hs (Int.tmod (p * 7 + 3) (s.length : Int))
        generalize rd s (Int.tmod p (s.length : Int)) = A at *
        generalize rd s (Int.tmod (p * 7 + 3) (s.length : Int)) = B at *
        have d0 : 0 ≤ Int.tdiv p (s.length : Int) := Int.tdiv_nonneg hp (by omega)
        have d1 : Int.tdiv p (s.length : Int) ≤ p := by rw [Int.tdiv_eq_ediv_of_nonneg hp]; exact Int.ediv_le_self _ hp
        generalize Int.tdiv p (s.length : Int) = D at *
        simp (disch := omega) only [w_]
        have x0 : 0 ≤ A * 131 + B * 1117 + p * 29 + D * 53 := by omega
        have x1 : A * 131 + B * 1117 + p * 29 + D * 53 ≤ 100000000 := by omega
        generalize A * 131 + B * 1117 + p * 29 + D * 53 = X at *
        have y0 : 0 ≤ Int.tdiv X 64 := Int.tdiv_nonneg x0 (by omega)
        have y1 : Int.tdiv X 64 ≤ X := by rw [Int.tdiv_eq_ediv_of_nonneg x0]; exact Int.ediv_le_self _ x0
        simp (disch := omega) only [w_]
        exact ⟨_, rfl, Int.tmod_nonneg _ (xor_nonneg _ _ (by omega) (by omega) (by omega) (by omega)), fun _ => Int.tmod_lt_of_pos _ (by omega), by omega⟩
theorem open_ok (l : List Int) (h : ∀ x ∈ l, (Lit.int .u8 x).wf = true) : ∃ s, spec_l6Open.f l = some (s, 0) ∧ Ok s := by
  have b : ∀ x ∈ l, 0 ≤ x ∧ x ≤ 255 := fun x hx => by
    have := h x hx
    simp [Lit.wf, IntKind.min, IntKind.max, IntKind.bits, IntKind.signed] at this
    omega
  unfold spec_l6Open.f
  by_cases c : (l.length : Int) > 2000
  · rw [if_pos c, if_pos (by omega)]
    exact ⟨_, rfl, by rw [List.length_take]; omega, fun x hx => b x (List.mem_of_mem_take hx)⟩
  · rw [if_neg c]
    exact ⟨_, rfl, by omega, b⟩

/-! ### weights -/
theorem weights : ∀ i : Fin 8, spec_l3Weight.f 20 (i.val : Int) = some ((2 ^ i.val : Nat) : Int) := by decide +kernel
theorem weight_ (k j : Nat) (hk : 20 ≤ k) (hj : j ≤ 7) : spec_l3Weight.f k (j : Int) = some ((2 ^ j : Nat) : Int) :=
  at_rounds (spec_l3Weight.mono _) hk (weights ⟨j, by omega⟩)
theorem pow_in (j : Nat) (hj : j ≤ 7) : 1 ≤ 2 ^ j ∧ 2 ^ j ≤ 128 :=
  ⟨Nat.one_le_two_pow, Nat.pow_le_pow_right (n := 2) (by decide) hj⟩

/-! ### dfoods -/
theorem food_loop (s : List Int) (hs : Ok s) (f0 f1 f3 f4 f5 : Int) : ∀ (d k j : Nat) (f2 p : Int), j + d = 8 → d + 21 < k → 0 ≤ p → p + d ≤ 90000 →
    ∃ g0 g1 g2 g3 g4 g5 q, spec_l91Food.l0 k (j : Int) s p f0 f1 f2 f3 f4 f5 = some (g0, g1, g2, g3, g4, g5, q) ∧ p ≤ q ∧ q ≤ p + d + 2
  | 0, k, j, f2, p, hj, hk, h0, h1 => by
    obtain ⟨k, rfl⟩ : ∃ r, k = r + 1 := ⟨k - 1, by omega⟩
    obtain ⟨r, er, _⟩ := pick_ok k s p 60 (by omega) hs h0 (by omega)
    simp only [spec_l91Food.l0]
    rw [if_neg (by omega), er]
    simp only [Option.bind_some]
    by_cases c0 : r = 0
    · obtain ⟨r2, e2, _⟩ := pick_ok k s (p + 1) 2 (by omega) hs (by omega) (by omega)
      rw [if_pos c0, e2]
      exact ⟨_, _, _, _, _, _, _, rfl, by omega, by omega⟩
    · rw [if_neg c0]
      by_cases c1 : r = 1
      · obtain ⟨r2, e2, _⟩ := pick_ok k s (p + 1) 2 (by omega) hs (by omega) (by omega)
        rw [if_pos c1, e2]
        exact ⟨_, _, _, _, _, _, _, rfl, by omega, by omega⟩
      · rw [if_neg c1]
        by_cases c2 : r = 2
        · obtain ⟨r2, e2, a2, b2, _⟩ := pick_ok k s (p + 1) 3 (by omega) hs (by omega) (by omega)
          rw [if_pos c2, e2]; simp only [Option.bind_some, List.length_cons, List.length_nil]
          rw [if_pos a2, if_pos (by have := b2 (by omega); omega)]
          exact ⟨_, _, _, _, _, _, _, rfl, by omega, by omega⟩
        · rw [if_neg c2]
          exact ⟨_, _, _, _, _, _, _, rfl, by omega, by omega⟩
  | d + 1, k, j, f2, p, hj, hk, h0, h1 => by
    obtain ⟨k, rfl⟩ : ∃ r, k = r + 1 := ⟨k - 1, by omega⟩
    have e : wrap64 ((j : Int) + 1) = ((j + 1 : Nat) : Int) := by rw [w_ _ (by omega) (by omega)]; omega
    obtain ⟨r, er, _⟩ := pick_ok k s p 6 (by omega) hs h0 (by omega)
    simp only [spec_l91Food.l0]
    rw [if_pos (by omega), er, e]
    simp only [Option.bind_some]
    by_cases c : r = 0
    · rw [if_pos c, weight_ k j (by omega) (by omega)]
      simp only [Option.bind_some]
      obtain ⟨g0, g1, g2, g3, g4, g5, q, h, q0, q1⟩ := food_loop s hs f0 f1 f3 f4 f5 d k (j + 1) (wrap64 (f2 + ((2 ^ j : Nat) : Int))) (p + 1) (by omega) (by omega) (by omega) (by omega)
      exact ⟨g0, g1, g2, g3, g4, g5, q, h, by omega, by omega⟩
    · rw [if_neg c]
      obtain ⟨g0, g1, g2, g3, g4, g5, q, h, q0, q1⟩ := food_loop s hs f0 f1 f3 f4 f5 d k (j + 1) f2 (p + 1) (by omega) (by omega) (by omega) (by omega)
      exact ⟨g0, g1, g2, g3, g4, g5, q, h, by omega, by omega⟩
theorem food_ok (k : Nat) (s : List Int) (p i : Int) (hk : 40 ≤ k) (hs : Ok s) (hp : 0 ≤ p) (hp' : p ≤ 80000) :
    ∃ g0 g1 g2 g3 g4 g5 q, spec_l91Food.f k s p i = some (g0, g1, g2, g3, g4, g5, q) ∧ p ≤ q ∧ q ≤ p + 14 := by
  unfold spec_l91Food.f
  obtain ⟨r1, e1, _⟩ := pick_ok k s p 3 (by omega) hs hp (by omega)
  obtain ⟨r2, e2, _⟩ := pick_ok k s (p + 1) 5 (by omega) hs (by omega) (by omega)
  obtain ⟨r3, e3, _⟩ := pick_ok k s (p + 1 + 1) 200 (by omega) hs (by omega) (by omega)
  obtain ⟨r4, e4, _⟩ := pick_ok k s (p + 1 + 1 + 1) 250 (by omega) hs (by omega) (by omega)
  rw [e1]; simp only [Option.bind_some]
  rw [e2]; simp only [Option.bind_some]
  rw [e3]; simp only [Option.bind_some]
  rw [e4]; simp only [Option.bind_some]
  obtain ⟨g0, g1, g2, g3, g4, g5, q, h, q0, q1⟩ := food_loop s hs i (wrap64 (1 + r1)) (wrap64 (1 + r2)) (wrap64 (r3 * 4)) r4 8 k 0 0 (p + 1 + 1 + 1 + 1) (by omega) (by omega) (by omega) (by omega)
  exact ⟨g0, g1, g2, g3, g4, g5, q, h, by omega, by omega⟩
theorem foods_loop (s : List Int) (hs : Ok s) (d : Nat) : ∀ (k j : Nat) (l : List S34) (p : Int), j + d = 9 → 1 ≤ j → d + 41 < k → l.length ≤ 6 → 0 ≤ p → p ≤ 70000 - 20 * d →
    ∃ L q, spec_l91Foods.l0 k l (j : Int) s p = some (L, q) ∧ L.length ≤ 7 ∧ p ≤ q ∧ q ≤ p + 15 * d + 1 := by
  induction d with
  | zero =>
    intro k j l p hj h1 hk hl h0 hp
    obtain ⟨k, rfl⟩ : ∃ r, k = r + 1 := ⟨k - 1, by omega⟩
    simp only [spec_l91Foods.l0]
    rw [if_neg (by omega)]
    by_cases c : (l.length : Int) > 0
    · obtain ⟨r, er, _⟩ := pick_ok k s p 30 (by omega) hs h0 (by omega)
      rw [if_pos c, er]
      simp only [Option.bind_some]
      by_cases g : r = 0
      · rw [if_pos g, if_pos (by omega), if_pos (by omega)]
        exact ⟨_, _, rfl, by simp; omega, by omega, by omega⟩
      · rw [if_neg g]
        exact ⟨_, _, rfl, by omega, by omega, by omega⟩
    · rw [if_neg c]
      exact ⟨_, _, rfl, by omega, by omega, by omega⟩
  | succ d ih =>
    intro k j l p hj h1 hk hl h0 hp
    obtain ⟨k, rfl⟩ : ∃ r, k = r + 1 := ⟨k - 1, by omega⟩
    have e : wrap64 ((j : Int) + 1) = ((j + 1 : Nat) : Int) := by rw [w_ _ (by omega) (by omega)]; omega
    obtain ⟨r, er, _⟩ := pick_ok k s p 3 (by omega) hs h0 (by omega)
    simp only [spec_l91Foods.l0]
    rw [if_pos (by omega), er, e]
    simp only [Option.bind_some]
    by_cases c : r > 0
    · rw [if_pos c]
      by_cases g : (l.length : Int) < 6
      · obtain ⟨g0, g1, g2, g3, g4, g5, q, h, q0, q1⟩ := food_ok k s (p + 1) (j : Int) (by omega) hs (by omega) (by omega)
        rw [if_pos g, h]
        simp only [Option.bind_some]
        rw [if_pos (by omega)]
        obtain ⟨L, q', h', l', q0', q1'⟩ := ih k (j + 1) (l ++ [⟨g0, g1, g2, g3, g4, g5⟩]) q (by omega) (by omega) (by omega) (by simp; omega) (by omega) (by omega)
        exact ⟨L, q', h', l', by omega, by omega⟩
      · rw [if_neg g]
        obtain ⟨L, q', h', l', q0', q1'⟩ := ih k (j + 1) l (p + 1) (by omega) (by omega) (by omega) hl (by omega) (by omega)
        exact ⟨L, q', h', l', by omega, by omega⟩
    · rw [if_neg c]
      obtain ⟨L, q', h', l', q0', q1'⟩ := ih k (j + 1) l (p + 1) (by omega) (by omega) (by omega) hl (by omega) (by omega)
      exact ⟨L, q', h', l', by omega, by omega⟩
theorem foods_ok (k : Nat) (s : List Int) (p : Int) (hk : 60 ≤ k) (hs : Ok s) (hp : 0 ≤ p) (hp' : p ≤ 10000) : ∃ L q, spec_l91Foods.f k s p = some (L, q) ∧ L.length ≤ 7 ∧ p ≤ q ∧ q ≤ p + 130 := by
  unfold spec_l91Foods.f
  obtain ⟨L, q, h, l, q0, q1⟩ := foods_loop s hs 8 k 1 [] p (by omega) (by omega) (by omega) (by simp) hp (by omega)
  exact ⟨L, q, h, l, q0, by omega⟩

/-- The numbers of the plants among the first c foods. -/
def PLs (l : List S34) (c : Nat) : List Int := ((List.range c).filter fun (i : Nat) => decide ((rd_T34 l (i : Int)).f3 = 1)).map fun (i : Nat) => (rd_T34 l (i : Int)).f0
theorem pls_yes (l : List S34) (c : Nat) (h : (rd_T34 l (c : Int)).f3 = 1) : PLs l (c + 1) = PLs l c ++ [(rd_T34 l (c : Int)).f0] := by
  simp [PLs, List.range_succ, List.filter_append, h]
theorem pls_no (l : List S34) (c : Nat) (h : ¬ (rd_T34 l (c : Int)).f3 = 1) : PLs l (c + 1) = PLs l c := by
  simp [PLs, List.range_succ, List.filter_append, h]
theorem pls_length (l : List S34) (c : Nat) : (PLs l c).length ≤ c := by
  have := List.length_filter_le (fun (i : Nat) => decide ((rd_T34 l (i : Int)).f3 = 1)) (List.range c)
  simp [PLs] at this ⊢
  exact this
theorem wl_ones (l : List S34) : ∀ (t : List Int) (a : Int), 0 ≤ a → a ≤ 1 → (∀ id ∈ t, 0 ≤ PI l id ∧ KD l id = 1) → WL l t a = if t = [] then a else 1
  | [], a, _, _, _ => rfl
  | id :: t, a, h0, h1, h => by
    obtain ⟨p, q⟩ := h id List.mem_cons_self
    have m : mx a (KD l id) = 1 := by rw [q]; unfold mx; split <;> omega
    unfold WL
    have r := wl_ones l t 1 (by omega) (by omega) (fun x hx => h x (List.mem_cons_of_mem _ hx))
    rw [if_neg (by omega), m, r, if_neg (List.cons_ne_nil id t)]
    split <;> rfl
theorem plants_loop (l : List S34) (h : FV l = true) : ∀ (d k j : Nat), j + d = l.length → d + 60 < k → laws_FnFoodsPlants.l0 k l (PLs l j) (j : Int) = some true
  | 0, k, j, hj, hk => by
    obtain ⟨k, rfl⟩ : ∃ r, k = r + 1 := ⟨k - 1, by omega⟩
    obtain rfl : j = l.length := by omega
    have h6 := ((fv_iff l).1 h).2
    have pl := pls_length l l.length
    have w := wl_ones l (PLs l l.length) 0 (by omega) (by omega) (fun id hid => by
      simp only [PLs, List.mem_map, List.mem_filter, List.mem_range, decide_eq_true_eq] at hid
      obtain ⟨i, ⟨i0, i1⟩, e⟩ := hid
      have p := pi_at l h id i i0 e
      unfold KD
      rw [p]
      exact ⟨by omega, i1⟩)
    simp only [laws_FnFoodsPlants.l0]
    rw [if_neg (by omega), i_wo l (by omega) _ (by omega) k (by omega), show WO l (PLs l l.length) = WL l (PLs l l.length) 0 from if_pos h, w]
    simp only [Option.bind_some]
    generalize PLs l l.length = P at *
    cases P with
    | nil => rfl
    | cons x t =>
      rw [if_neg (List.cons_ne_nil x t), if_pos (by omega)]
      have m : mn (((x :: t).length : Nat) : Int) 1 = 1 := by unfold mn; simp; omega
      rw [m]; rfl
  | d + 1, k, j, hj, hk => by
    obtain ⟨k, rfl⟩ : ∃ r, k = r + 1 := ⟨k - 1, by omega⟩
    have h6 := ((fv_iff l).1 h).2
    have e : wrap64 ((j : Int) + 1) = ((j + 1 : Nat) : Int) := by rw [w_ _ (by omega) (by omega)]; omega
    have r := plants_loop l h d k (j + 1) (by omega) (by omega)
    have pl := pls_length l j
    simp only [laws_FnFoodsPlants.l0]
    rw [if_pos (by omega), if_pos (by omega), e]
    by_cases c : (rd_T34 l (j : Int)).f3 = 1
    · rw [pls_yes l j c] at r
      rw [if_pos c, if_pos (by omega)]
      exact r
    · rw [pls_no l j c] at r
      rw [if_neg c]
      exact r
theorem dfind_ok (k : Nat) (l : List Int) (hk : 60 ≤ k) (hl : ∀ x ∈ l, (Lit.int .u8 x).wf = true) : ∃ L a, spec_DrawFoodsFind.f k l = some (L, a) ∧ L.length ≤ 7 := by
  unfold spec_DrawFoodsFind.f
  obtain ⟨s, es, hs⟩ := open_ok l hl
  obtain ⟨L, q, h, h7, q0, q1⟩ := foods_ok k s 0 hk hs (by omega) (by omega)
  obtain ⟨a, e, _⟩ := pick_ok k s q 10 (by omega) hs (by omega) (by omega)
  rw [es]; simp only [Option.bind_some]
  rw [h]; simp only [Option.bind_some]
  rw [e]
  exact ⟨_, _, rfl, h7⟩
theorem FnFoodsPlants (l : List Int) (_ : l.length ≤ maxLen) (hl : ∀ x ∈ l, (Lit.int .u8 x).wf = true) : ∃ k, laws_FnFoodsPlants.f k l = some true := by
  refine ⟨200, ?_⟩
  unfold laws_FnFoodsPlants.f
  by_cases c : (l.length : Int) > 1048576
  · rw [if_pos c]
  · obtain ⟨L, a, e, hL⟩ := dfind_ok 200 l (by omega) hl
    rw [if_neg c, e]; simp only [Option.bind_some]
    rw [i_ff L (by omega) a 200 (by omega), k_ff L (by omega) a 200 (by omega), k_fv L (by omega) 200 (by omega)]
    simp only [Option.bind_some, if_true]
    show laws_FnFoodsPlants.j0 (199 + 1) _ _ _ _ = _
    simp only [laws_FnFoodsPlants.j0]
    cases h : FV L with
    | false => simp
    | true =>
      rw [if_neg (by simp)]
      have r := plants_loop L h L.length 199 0 (by omega) (by omega)
      exact r

end Go.Proofs.Ytmdcfgcbiegofaa.Pure
