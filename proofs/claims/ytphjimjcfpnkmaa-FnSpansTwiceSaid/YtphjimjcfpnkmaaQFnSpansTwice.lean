/- What SpansJoin and SpansFree answer, and what calls them, up to FnSpansTwice. -/
import Derived.Test.YtphjimjcfpnkmaaPFnSpansTwicex0
import Derived.Test.YtphjimjcfpnkmaaPFnSpansTwicex1
import Derived.Test.YtphjimjcfpnkmaaPFnSpansTwicex2
import Derived.Test.YtphjimjcfpnkmaaPFnSpansTwicex3
import Derived.Test.YtphjimjcfpnkmaaPFnSpansTwicex4
namespace Go.Proofs.Ytphjimjcfpnkmaa.PFnSpansTwice
open Go.RowKit Go.Proofs.YtphjimjcfpnkmaaW.PrintWords Go.Proofs.YtphjimjcfpnkmaaW.PrintLast Go.Proofs.YtphjimjcfpnkmaaW.PrintMore
attribute [local go_sem] max2_int min2_int max_two min_two max_three min_three max_four min_four   -- for this text's walks alone
set_option linter.unusedVariables false
set_option linter.unusedSimpArgs false

attribute [local go_sem high] eqA29
/-! ### impl_SpansJoin: a walk of ours -/
/-! ### impl_Span_has: function 35 -/
def impl_Span_has.f (a0_0 : Int) (a0_1 : Int) (a1 : Int) : Option (Bool) := if a0_0 ≤ a1 then (some (decide (a1 < a0_1))) else (some false)
set_option maxHeartbeats 8000000 in
set_option maxRecDepth 100000 in
theorem impl_Span_has.calls (a0_0 : Int) (a0_1 : Int) (a1 : Int) (r : Bool) (w : World) (h : impl_Span_has.f a0_0 a0_1 a1 = some r) :
    Calls Try.prog 35 #[.agg #[.int .i64 a0_0, .int .i64 a0_1], .int .i64 a1] w fun e w' => e = .returned (.bool r) ∧ Below w.heap.size w w' := by
  have hu29 := Try.underlying29
  have HB := Aside0.mk (Below.refl w.heap.size w)
  have H : (if a0_0 ≤ a1 then (some (decide (a1 < a0_1))) else (some false)) = some r := h
  clear h
  by_cases c3 : a0_0 ≤ a1
  · rw [if_pos c3] at H
    have c3b0 : decide (a0_0 ≤ a1) = true := decide_eq_true c3
    clear c3
    obtain rfl := Option.some.inj H
    go_enter Try.func35, Try.ntmps35
    go_wp2_with (first | ((with_reducible refine gate_dst (N := 2) rfl ?_); refine box_event ?hg (N := 2) ?hd (cs := #[.int .i64 a0_0, .int .i64 a0_1]) (t := 29) ?hr ?_; (case hd => rfl); (case hg => rfl); (case hr => first | (go_simp; done) | (go_simp; rfl)); intro gb113 hg w4 hbox hb; have n0_ := Aside0.mk (below_step (by repeat (first | (with_reducible first | exact HB.out | apply below_alloc | apply pw_below_drewN | apply below_drew1) | exact HB.out)) hb); have n1_ := Aside0.mk (hbox); have n2_ := Aside0.mk ((by rw [hg]; exact (below_size (by repeat (first | (with_reducible first | exact HB.out | apply below_alloc | apply pw_below_drewN | apply below_drew1) | exact HB.out))) : w.heap.size ≤ gb113)); have n3_ := Aside0.mk ((by rw [hg]; exact (below_size (by repeat (first | (with_reducible first | exact HB.out | apply below_alloc | apply pw_below_drewN | apply below_drew1) | exact HB.out))) : w.heap.size ≤ gb113)); clear HB; have HB := n0_; have BK113 := n1_; have GW113 := n2_; have GE113 := n3_; clear n0_ n1_ n2_ n3_; clear hb hbox hg; have hcz5_0 : w4.cell? ⟨gb113, 0, none⟩ = some (.int .i64 a0_0) := (blk_cell BK113.out 0).trans rfl; have hcz5_1 : w4.cell? ⟨gb113, 1, none⟩ = some (.int .i64 a0_1) := (blk_cell BK113.out 1).trans rfl; have hfz5_0 := blk_frozen BK113.out 0; have hfz5_1 := blk_frozen BK113.out 1))
    go_ret
    exact ⟨by first | rfl | (simp [errW_none, errW_some] <;> rfl) | (simp [*, errW_none, errW_some] <;> rfl), by repeat (first | (with_reducible first | exact HB.out | apply below_alloc | apply pw_below_drewN | apply below_drew1 | refine below_set ?_ GE113.out) | exact HB.out)⟩
  · rw [if_neg c3] at H
    have c3b0 : decide (a0_0 ≤ a1) = false := decide_eq_false c3
    clear c3
    obtain rfl := Option.some.inj H
    go_enter Try.func35, Try.ntmps35
    go_wp2_with (first | ((with_reducible refine gate_dst (N := 2) rfl ?_); refine box_event ?hg (N := 2) ?hd (cs := #[.int .i64 a0_0, .int .i64 a0_1]) (t := 29) ?hr ?_; (case hd => rfl); (case hg => rfl); (case hr => first | (go_simp; done) | (go_simp; rfl)); intro gb113 hg w6 hbox hb; have n0_ := Aside0.mk (below_step (by repeat (first | (with_reducible first | exact HB.out | apply below_alloc | apply pw_below_drewN | apply below_drew1) | exact HB.out)) hb); have n1_ := Aside0.mk (hbox); have n2_ := Aside0.mk ((by rw [hg]; exact (below_size (by repeat (first | (with_reducible first | exact HB.out | apply below_alloc | apply pw_below_drewN | apply below_drew1) | exact HB.out))) : w.heap.size ≤ gb113)); have n3_ := Aside0.mk ((by rw [hg]; exact (below_size (by repeat (first | (with_reducible first | exact HB.out | apply below_alloc | apply pw_below_drewN | apply below_drew1) | exact HB.out))) : w.heap.size ≤ gb113)); clear HB; have HB := n0_; have BK113 := n1_; have GW113 := n2_; have GE113 := n3_; clear n0_ n1_ n2_ n3_; clear hb hbox hg; have hcz7_0 : w6.cell? ⟨gb113, 0, none⟩ = some (.int .i64 a0_0) := (blk_cell BK113.out 0).trans rfl; have hcz7_1 : w6.cell? ⟨gb113, 1, none⟩ = some (.int .i64 a0_1) := (blk_cell BK113.out 1).trans rfl; have hfz7_0 := blk_frozen BK113.out 0; have hfz7_1 := blk_frozen BK113.out 1))
    go_ret
    exact ⟨by first | rfl | (simp [errW_none, errW_some] <;> rfl) | (simp [*, errW_none, errW_some] <;> rfl), by repeat (first | (with_reducible first | exact HB.out | apply below_alloc | apply pw_below_drewN | apply below_drew1 | refine below_set ?_ GE113.out) | exact HB.out)⟩

/-! ### impl_anyHas: function 30 -/
def impl_anyHas.l0 : Nat → Int → List (S29) → Int → Int → Option (Bool)
  | 0, _, _, _, _ => none
  | k + 1, x1, x7, x8, x9 => if x9 < x8 then (if 0 ≤ x9 then (if x9 < (x7.length : Int) then ((impl_Span_has.f ((rd_T29 x7 x9).f0) ((rd_T29 x7 x9).f1) x1).bind fun t116 => (if t116 = true then (some true) else (impl_anyHas.l0 k x1 x7 x8 (wrap64 (x9 + 1))))) else (none)) else (none)) else (some false)
def impl_anyHas.f (k : Nat) (l0 : List (S29)) (a1 : Int) : Option (Bool) := impl_anyHas.l0 k a1 l0 (l0.length : Int) 0
theorem impl_anyHas.mono_l : ∀ k, (∀ y0 y1 y2 y3, LeO (impl_anyHas.l0 k y0 y1 y2 y3) (impl_anyHas.l0 (k + 1) y0 y1 y2 y3))
  | 0 => fun _ _ _ _ r h => by simp [impl_anyHas.l0] at h
  | k + 1 => by
    have ih0 := impl_anyHas.mono_l k
    · intro y0 y1 y2 y3
      unfold impl_anyHas.l0
      repeat' first
      | (with_reducible exact ih0 _ _ _ _)
      | (with_reducible exact LeO.refl _)
      | (with_reducible exact LeO.none _)
      | (with_reducible refine LeO.ite ?_ ?_)
      | (with_reducible refine LeO.bind ?_ (fun _ => ?_))
      | exact ih0 _ _ _ _
      | exact LeO.none _
      | refine LeO.ite ?_ ?_
      | refine LeO.bind ?_ (fun _ => ?_)
theorem impl_anyHas.mono : ∀ a0 a1 k, LeO (impl_anyHas.f k a0 a1) (impl_anyHas.f (k + 1) a0 a1) := by
  intro a0 a1 k
  have ih0 := impl_anyHas.mono_l k
  unfold impl_anyHas.f
  repeat' first
      | (with_reducible exact ih0 _ _ _ _)
      | (with_reducible exact LeO.refl _)
      | (with_reducible exact LeO.none _)
      | (with_reducible refine LeO.ite ?_ ?_)
      | (with_reducible refine LeO.bind ?_ (fun _ => ?_))
      | exact ih0 _ _ _ _
      | exact LeO.none _
      | refine LeO.ite ?_ ?_
      | refine LeO.bind ?_ (fun _ => ?_)
set_option maxHeartbeats 8000000 in
set_option maxRecDepth 100000 in
theorem impl_anyHas.calls (k : Nat) (A0 : Option Addr) (c0 : Nat) (l0 : List (S29)) (a1 : Int) (r : Bool) (w : World) (hr0 : Kd.C k29 w A0 l0.length l0) (hc0 : l0.length ≤ c0) (h : impl_anyHas.f k l0 a1 = some r) :
    Calls Try.prog 30 #[.slice A0 l0.length c0, .int .i64 a1] w fun e w' => e = .returned (.bool r) ∧ Below w.heap.size w w' := by
  have hu29 := Try.underlying29
  have HR0 := Aside0.mk hr0
  have HC0 := Aside0.mk hc0
  clear hr0 hc0
  have HB := Aside0.mk (Below.refl w.heap.size w)
  have H : (impl_anyHas.l0 k a1 l0 (l0.length : Int) 0) = some r := h
  clear h
  have H' := Aside0.mk H
  clear H
  go_enter Try.func30, Try.ntmps30
  go_wp2
  go_loopg [9] k (fun kq v9 w' => ∃ (x9_1 : Int), v9 = .int .i64 x9_1 ∧ Aside0 (impl_anyHas.l0 kq a1 l0 (l0.length : Int) x9_1 = some r) ∧ Aside0 (kq ≤ k) ∧ Aside0 (Below w.heap.size w w'))
  case atStart => exact ⟨(0), (by first | rfl | (simp; done) | (simp [*]; done)), H', ⟨Nat.le_refl _⟩, ⟨by repeat (first | (with_reducible first | exact HB.out | apply below_alloc | apply pw_below_drewN | apply below_drew1) | exact HB.out)⟩⟩
  case round =>
    clear H'
    try clear p2
    obtain ⟨x9_1, rfl, HA, HK1, HB⟩ := hrel
    cases gk with
    | zero => exact absurd HA.out (by simp [impl_anyHas.l0])
    | succ k1 =>
      have H := HA.out
      clear HA
      simp only [impl_anyHas.l0] at H
      by_cases c3 : x9_1 < (l0.length : Int)
      · rw [if_pos c3] at H
        have c3b0 : decide (x9_1 < (l0.length : Int)) = true := decide_eq_true c3
        clear c3
        by_cases c4 : 0 ≤ x9_1
        · rw [if_pos c4] at H
          have c4b0 : decide (0 ≤ x9_1) = true := decide_eq_true c4
          clear c4
          by_cases c5 : x9_1 < (l0.length : Int)
          · rw [if_pos c5] at H
            have c5b0 : decide (x9_1 < (l0.length : Int)) = true := decide_eq_true c5
            clear c5
            replace H := Option.bind_eq_some_iff.mp H
            obtain ⟨t116, A60, H⟩ := H
            replace H : (if t116 = true then (some true) else (impl_anyHas.l0 k1 a1 l0 (l0.length : Int) (wrap64 (x9_1 + 1)))) = some r := H
            have A6 := Aside0.mk A60
            clear A60
            by_cases c7 : t116 = true
            · subst c7
              have H1 : (some true) = some r := by rw [if_pos rfl] at H; exact H
              clear H
              have H := H1
              clear H1
              obtain rfl := Option.some.inj H
              have p114 : 0 ≤ (x9_1 : Int) := of_decide_eq_true (by first | (with_reducible assumption) | assumption)
              have q114 : x9_1 < (l0.length : Int) := of_decide_eq_true (by first | (with_reducible assumption) | assumption)
              obtain ⟨ad114, e114, hx114_0, hx114_1⟩ := at_T29 HR0.out x9_1 p114 q114
              cases e114
              replace hx114_0 := (HB.out.cell (World.block_lt_of_cell? w _ hx114_0)).trans hx114_0
              replace hx114_1 := (HB.out.cell (World.block_lt_of_cell? w _ hx114_1)).trans hx114_1
              replace p114 := eq_true p114
              replace q114 := eq_true q114
              go_wp2_with (first | ((with_reducible refine gate_dst (N := 6) rfl ?_); refine box_event ?hg (N := 6) ?hd (cs := #[.int .i64 0, .int .i64 0]) (t := 29) ?hr ?_; (case hd => rfl); (case hg => rfl); (case hr => first | (go_simp; done) | (go_simp; rfl)); intro gb115 hg w8 hbox hb; have n0_ := Aside0.mk (below_step (by repeat (first | (with_reducible first | exact HB.out | apply below_alloc | apply pw_below_drewN | apply below_drew1) | exact HB.out)) hb); have n1_ := Aside0.mk (hbox); have n2_ := Aside0.mk ((by rw [hg]; exact (below_size (by repeat (first | (with_reducible first | exact HB.out | apply below_alloc | apply pw_below_drewN | apply below_drew1) | exact HB.out))) : w.heap.size ≤ gb115)); have n3_ := Aside0.mk ((by rw [hg]; exact (below_size (by repeat (first | (with_reducible first | exact HB.out | apply below_alloc | apply pw_below_drewN | apply below_drew1) | exact HB.out))) : w.heap.size ≤ gb115)); clear HB; have HB := n0_; have BK115 := n1_; have GW115 := n2_; have GE115 := n3_; clear n0_ n1_ n2_ n3_; clear hb hbox hg; have hcz9_0 : w8.cell? ⟨gb115, 0, none⟩ = some (.int .i64 0) := (blk_cell BK115.out 0).trans rfl; have hcz9_1 : w8.cell? ⟨gb115, 1, none⟩ = some (.int .i64 0) := (blk_cell BK115.out 1).trans rfl; have hfz9_0 := blk_frozen BK115.out 0; have hfz9_1 := blk_frozen BK115.out 1) | ((with_reducible refine gate_callee (f := 35) rfl ?_); refine goesL_ (some 15) rfl rfl Try.func35 (by kernel_rfl) rfl #[.agg #[.int .i64 ((rd_T29 l0 x9_1).f0), .int .i64 ((rd_T29 l0 x9_1).f1)], .int .i64 a1] rfl (by (try simp only [List.map_toArray, List.map_cons, List.map_nil]); first | done | rfl | (simp only [List.length_drop, List.length_take]; rfl)) ?_; (with_reducible refine (impl_Span_has.calls ((rd_T29 l0 x9_1).f0) ((rd_T29 l0 x9_1).f1) a1 true _ A6.out).mono ?_); rintro e w10 ⟨rfl, hb⟩; refine ⟨_, rfl, ?_⟩; have n0_ := Aside0.mk (blk_below (g := gb115) (o := .cells #[.int .i64 ((rd_T29 l0 x9_1).f0), .int .i64 ((rd_T29 l0 x9_1).f1)] 29 (0, 0)) (by (with_reducible repeat (first | refine blk_drewN ?_ _ | refine blk_drew ?_ | refine blk_alloc ?_ _)); refine blk_put (cs := #[.int .i64 ((rd_T29 l0 x9_1).f0), .int .i64 0]) ?_ 1 _ rfl; (with_reducible repeat (first | refine blk_drewN ?_ _ | refine blk_drew ?_ | refine blk_alloc ?_ _)); refine blk_put (cs := #[.int .i64 0, .int .i64 0]) ?_ 0 _ rfl; (with_reducible repeat (first | refine blk_drewN ?_ _ | refine blk_drew ?_ | refine blk_alloc ?_ _)); exact BK115.out) hb); have n1_ := Aside0.mk (below_step (by repeat (first | (with_reducible first | exact HB.out | apply below_alloc | apply pw_below_drewN | apply below_drew1 | refine below_set ?_ GE115.out) | exact HB.out)) hb); clear BK115; clear HB; have BK115 := n0_; have HB := n1_; clear n0_ n1_; (try clear hb); (try clear hb2); (try clear hk); (try clear hi)))
              go_ret
              exact ⟨by first | rfl | (simp [errW_none, errW_some] <;> rfl) | (simp [*, errW_none, errW_some] <;> rfl), by repeat (first | (with_reducible first | exact HB.out | apply below_alloc | apply pw_below_drewN | apply below_drew1 | refine below_set ?_ GE115.out) | exact HB.out)⟩
            · replace c7 := Bool.eq_false_iff.mpr c7
              subst c7
              have H1 : (impl_anyHas.l0 k1 a1 l0 (l0.length : Int) (wrap64 (x9_1 + 1))) = some r := by rw [if_neg (show ¬ (false = true) by decide)] at H; exact H
              clear H
              have H := H1
              clear H1
              have H' := Aside0.mk H
              clear H
              have p114 : 0 ≤ (x9_1 : Int) := of_decide_eq_true (by first | (with_reducible assumption) | assumption)
              have q114 : x9_1 < (l0.length : Int) := of_decide_eq_true (by first | (with_reducible assumption) | assumption)
              obtain ⟨ad114, e114, hx114_0, hx114_1⟩ := at_T29 HR0.out x9_1 p114 q114
              cases e114
              replace hx114_0 := (HB.out.cell (World.block_lt_of_cell? w _ hx114_0)).trans hx114_0
              replace hx114_1 := (HB.out.cell (World.block_lt_of_cell? w _ hx114_1)).trans hx114_1
              replace p114 := eq_true p114
              replace q114 := eq_true q114
              go_wp2_with (first | ((with_reducible refine gate_dst (N := 6) rfl ?_); refine box_event ?hg (N := 6) ?hd (cs := #[.int .i64 0, .int .i64 0]) (t := 29) ?hr ?_; (case hd => rfl); (case hg => rfl); (case hr => first | (go_simp; done) | (go_simp; rfl)); intro gb115 hg w11 hbox hb; have n0_ := Aside0.mk (below_step (by repeat (first | (with_reducible first | exact HB.out | apply below_alloc | apply pw_below_drewN | apply below_drew1) | exact HB.out)) hb); have n1_ := Aside0.mk (hbox); have n2_ := Aside0.mk ((by rw [hg]; exact (below_size (by repeat (first | (with_reducible first | exact HB.out | apply below_alloc | apply pw_below_drewN | apply below_drew1) | exact HB.out))) : w.heap.size ≤ gb115)); have n3_ := Aside0.mk ((by rw [hg]; exact (below_size (by repeat (first | (with_reducible first | exact HB.out | apply below_alloc | apply pw_below_drewN | apply below_drew1) | exact HB.out))) : w.heap.size ≤ gb115)); clear HB; have HB := n0_; have BK115 := n1_; have GW115 := n2_; have GE115 := n3_; clear n0_ n1_ n2_ n3_; clear hb hbox hg; have hcz12_0 : w11.cell? ⟨gb115, 0, none⟩ = some (.int .i64 0) := (blk_cell BK115.out 0).trans rfl; have hcz12_1 : w11.cell? ⟨gb115, 1, none⟩ = some (.int .i64 0) := (blk_cell BK115.out 1).trans rfl; have hfz12_0 := blk_frozen BK115.out 0; have hfz12_1 := blk_frozen BK115.out 1) | ((with_reducible refine gate_callee (f := 35) rfl ?_); refine goesL_ (some 15) rfl rfl Try.func35 (by kernel_rfl) rfl #[.agg #[.int .i64 ((rd_T29 l0 x9_1).f0), .int .i64 ((rd_T29 l0 x9_1).f1)], .int .i64 a1] rfl (by (try simp only [List.map_toArray, List.map_cons, List.map_nil]); first | done | rfl | (simp only [List.length_drop, List.length_take]; rfl)) ?_; (with_reducible refine (impl_Span_has.calls ((rd_T29 l0 x9_1).f0) ((rd_T29 l0 x9_1).f1) a1 false _ A6.out).mono ?_); rintro e w13 ⟨rfl, hb⟩; refine ⟨_, rfl, ?_⟩; have n0_ := Aside0.mk (blk_below (g := gb115) (o := .cells #[.int .i64 ((rd_T29 l0 x9_1).f0), .int .i64 ((rd_T29 l0 x9_1).f1)] 29 (0, 0)) (by (with_reducible repeat (first | refine blk_drewN ?_ _ | refine blk_drew ?_ | refine blk_alloc ?_ _)); refine blk_put (cs := #[.int .i64 ((rd_T29 l0 x9_1).f0), .int .i64 0]) ?_ 1 _ rfl; (with_reducible repeat (first | refine blk_drewN ?_ _ | refine blk_drew ?_ | refine blk_alloc ?_ _)); refine blk_put (cs := #[.int .i64 0, .int .i64 0]) ?_ 0 _ rfl; (with_reducible repeat (first | refine blk_drewN ?_ _ | refine blk_drew ?_ | refine blk_alloc ?_ _)); exact BK115.out) hb); have n1_ := Aside0.mk (below_step (by repeat (first | (with_reducible first | exact HB.out | apply below_alloc | apply pw_below_drewN | apply below_drew1 | refine below_set ?_ GE115.out) | exact HB.out)) hb); clear BK115; clear HB; have BK115 := n0_; have HB := n1_; clear n0_ n1_; (try clear hb); (try clear hb2); (try clear hk); (try clear hi)))
              go_roundg k1
              case measure => have := HK1.out; omega
              case rel => exact ⟨(wrap64 (x9_1 + 1)), (by first | rfl | (simp; done) | (simp [*]; done)), H', ⟨by have := HK1.out; omega⟩, ⟨by repeat (first | (with_reducible first | exact HB.out | apply below_alloc | apply pw_below_drewN | apply below_drew1 | refine below_set ?_ GE115.out) | exact HB.out)⟩⟩
          · rw [if_neg c5] at H
            exact absurd H (by simp)
        · rw [if_neg c4] at H
          exact absurd H (by simp)
      · rw [if_neg c3] at H
        have c3b0 : decide (x9_1 < (l0.length : Int)) = false := decide_eq_false c3
        clear c3
        obtain rfl := Option.some.inj H
        go_wp2
        go_ret
        exact ⟨by first | rfl | (simp [errW_none, errW_some] <;> rfl) | (simp [*, errW_none, errW_some] <;> rfl), by repeat (first | (with_reducible first | exact HB.out | apply below_alloc | apply pw_below_drewN | apply below_drew1) | exact HB.out)⟩

-- what the minutes of a row of spans are
def spHas (s : S29) (m : Int) : Bool := decide (s.f0 ≤ m) && decide (m < s.f1)
def spAny (l : List S29) (m : Int) : Bool := l.any (fun s => spHas s m)
theorem anyHas_run (l : List S29) (m : Int) (hn : l.length < 9223372036854775808) : ∀ d i, l.length - i = d → i ≤ l.length → ∀ k, d + 1 ≤ k → impl_anyHas.l0 k m l (l.length : Int) (i : Int) = some ((l.drop i).any (fun s => spHas s m)) := by
  intro d
  induction d with
  | zero =>
    intro i hd hi k hk
    obtain ⟨k, rfl⟩ : ∃ j, k = j + 1 := ⟨k - 1, by omega⟩
    have : i = l.length := by omega
    subst this
    simp [impl_anyHas.l0]
  | succ d ih =>
    intro i hd hi k hk
    obtain ⟨k, rfl⟩ : ∃ j, k = j + 1 := ⟨k - 1, by omega⟩
    have hlt : i < l.length := by omega
    have hx : rd_T29 l (i : Int) = l[i] := by simp [rd_T29, List.getD, hlt]
    have hdrop : l.drop i = l[i] :: l.drop (i + 1) := List.drop_eq_getElem_cons hlt
    have hw : wrap64 ((i : Int) + 1) = ((i + 1 : Nat) : Int) := by unfold wrap64; omega
    have hrec := ih (i + 1) (by omega) (by omega) k (by omega)
    simp only [impl_anyHas.l0]
    rw [if_pos (by omega), if_pos (by omega), if_pos (by omega), hx, hw, hrec, hdrop, List.any_cons]
    generalize (l.drop (i + 1)).any (fun s => spHas s m) = b
    clear hx hdrop hrec ih
    generalize l[i] = s
    by_cases c : s.f0 ≤ m
    · by_cases e : m < s.f1
      · simp [impl_Span_has.f, spHas, c, e]
      · simp [impl_Span_has.f, spHas, c, e]
    · simp [impl_Span_has.f, spHas, c]
theorem anyHas_val (l : List S29) (m : Int) (hn : l.length < 9223372036854775808) : impl_anyHas.f (l.length + 1) l m = some (spAny l m) := by
  have h := anyHas_run l m hn l.length 0 (by omega) (by omega) (l.length + 1) (by omega)
  simpa [impl_anyHas.f, spAny] using h

def impl_spansOf.l0 (p : Int → Bool) : Nat → List (S29) → Int → Option ((List (S29)))
  | 0, _, _ => none
  | k + 1, x3, x7 => if x7 < 1440 then (((some (p x7) : Option Bool)).bind fun t120 => (if t120 = true then (if (wrap64 ((x3.length : Int) - 1)) ≥ 0 then (if 0 ≤ (wrap64 ((x3.length : Int) - 1)) then (if (wrap64 ((x3.length : Int) - 1)) < (x3.length : Int) then (if ((rd_T29 x3 (wrap64 ((x3.length : Int) - 1))).f1) = x7 then (impl_spansOf.l0 p k (x3.set ((wrap64 ((x3.length : Int) - 1)) : Int).toNat (⟨(rd_T29 x3 (wrap64 ((x3.length : Int) - 1))).f0, wrap64 (((rd_T29 x3 (wrap64 ((x3.length : Int) - 1))).f1) + 1)⟩ : S29)) (wrap64 (x7 + 1))) else (if x3.length < 8796093022208 then (impl_spansOf.l0 p k (x3 ++ [(⟨x7, wrap64 (x7 + 1)⟩ : S29)]) (wrap64 (x7 + 1))) else (none))) else (none)) else (none)) else (if x3.length < 8796093022208 then (impl_spansOf.l0 p k (x3 ++ [(⟨x7, wrap64 (x7 + 1)⟩ : S29)]) (wrap64 (x7 + 1))) else (none))) else (impl_spansOf.l0 p k x3 (wrap64 (x7 + 1))))) else (some x3)
def impl_spansOf.f (p : Int → Bool) (k : Nat) : Option ((List (S29))) := impl_spansOf.l0 p k (([] : List (S29))) 0

theorem impl_spansOf.mono_l (p : Int → Bool) : ∀ k, (∀ y0 y1, LeO (impl_spansOf.l0 p k y0 y1) (impl_spansOf.l0 p (k + 1) y0 y1))
  | 0 => fun _ _ r h => by simp [impl_spansOf.l0] at h
  | k + 1 => by
    have ih0 := impl_spansOf.mono_l p k
    · intro y0 y1
      unfold impl_spansOf.l0
      repeat' first
      | (with_reducible exact ih0 _ _)
      | (with_reducible exact LeO.refl _)
      | (with_reducible exact LeO.none _)
      | (with_reducible refine LeO.ite ?_ ?_)
      | (with_reducible refine LeO.bind ?_ (fun _ => ?_))
      | exact ih0 _ _
      | exact LeO.none _
      | refine LeO.ite ?_ ?_
      | refine LeO.bind ?_ (fun _ => ?_)

set_option maxHeartbeats 8000000 in
theorem joinPred_calls (A0 : Option Addr) (c0 : Nat) (l0 : List (S29)) (B : Nat) (w : World) (hr0 : Kd.C k29 w A0 l0.length l0) (hc0 : l0.length ≤ c0) (hB : B < w.heap.size) (hc : w.cell? ⟨B, 0, none⟩ = some (.slice A0 l0.length c0)) (W : World) (m : Int) (b : Bool) (hW : Below w.heap.size w W) (hp : some (spAny l0 m) = some b) :
    Calls Try.prog 29 #[.int .i64 m, .pointer (some ⟨B, 0, none⟩)] W fun e w' => e = .returned (.bool b) ∧ Below W.heap.size W w' := by
  have hn : l0.length < 9223372036854775808 := by have := hr0.2.1; omega
  have hcW : W.cell? ⟨B, 0, none⟩ = some (.slice A0 l0.length c0) := (hW.cell (p := ⟨B, 0, none⟩) hB).trans hc
  have HCALL := Aside0.mk (impl_anyHas.calls (l0.length + 1) A0 c0 l0 m b W (Kd.C_below hr0 hW) hc0 ((anyHas_val l0 m hn).trans hp))
  clear hr0 hc0 hW hp hn hc hB
  go_enter Try.func29, Try.ntmps29
  go_wp2_with fail
  refine HCALL.out.mono ?_
  rintro e w' ⟨rfl, hb⟩
  have HB := Aside0.mk hb
  clear hb
  go_wp2
  go_ret
  exact ⟨rfl, HB.out⟩

set_option maxHeartbeats 8000000 in
set_option maxRecDepth 100000 in
theorem spansOfJoin_calls (p : Int → Bool) (k : Nat) (B : Nat) (r : List (S29)) (w : World) (hp : ∀ (W : World) (m : Int) (b : Bool), Below w.heap.size w W → some (p m) = some b → Calls Try.prog 29 #[.int .i64 m, .pointer (some ⟨B, 0, none⟩)] W fun e w' => e = .returned (.bool b) ∧ Below W.heap.size W w') (h : impl_spansOf.f p k = some r) :
    Calls Try.prog 28 #[.func (.func 29) #[] #[.pointer (some ⟨B, 0, none⟩)]] w fun e w' => ∃ v0_ : Value, e = .returned (v0_) ∧ Kd.R k29 29 w' w.heap.size (fun _ => True) v0_ r ∧ Below w.heap.size w w' := by
  have hu29 := Try.underlying29
  have PRE := Aside0.mk hp
  clear hp
  have HB := Aside0.mk (Below.refl w.heap.size w)
  have H : (impl_spansOf.l0 p k (([] : List (S29))) 0) = some r := h
  clear h
  obtain ⟨y117, hy117⟩ : ∃ y_ : List (S29), y_ = (([] : List (S29))) := ⟨_, rfl⟩
  replace H : (impl_spansOf.l0 p k y117 0) = some r := by first | (rw [hy117]; with_reducible exact H) | (have H2_ := (Option.bind_some _ _).symm.trans H; rw [hy117]; with_reducible exact H2_) | (have H2_ := (Option.bind_some _ _).symm.trans H; with_reducible exact H2_) | with_reducible exact H | (rw [hy117]; exact H) | exact H
  have Ny117 := Aside0.mk hy117
  clear hy117
  have H' := Aside0.mk H
  clear H
  go_enter Try.func28, Try.ntmps28
  go_wp2_with (first | ((with_reducible refine gate_dst (N := 6) rfl ?_); refine Kd.R_lit k29 _ 29 ?hg (N := 6) ?hd (xs := ([] : List (S29))) (inner := []) (ok := fun _ => True) (okp := fun _ => True) ?hr ?hp (fun _ hk => hk) trivial (Below.refl _ _) (Nat.le_refl _) (by simp) ?_; (case hd => rfl); (case hg => rfl); (case hr => first | (go_simp; done) | (go_simp; rfl)); (case hp => exact (Reps.none _ _)); intro v118 w2 ho3 hb hg_ hnew_; clear hg_ hnew_; (first | rw [← Ny117.out] at ho3 | (simp only [Int.reduceToNat] at ho3; rw [← Ny117.out] at ho3)); have n0_ := Aside0.mk (Kd.R_lower ho3 (below_size (by repeat (first | (with_reducible first | exact HB.out | apply below_alloc | apply pw_below_drewN | apply below_drew1) | exact HB.out)))); have n1_ := Aside0.mk (below_step (by repeat (first | (with_reducible first | exact HB.out | apply below_alloc | apply pw_below_drewN | apply below_drew1) | exact HB.out)) hb); clear HB; have HO119 := n0_; have HB := n1_; clear n0_ n1_; clear hb ho3))
  go_loopg [3, 7] k (fun kq v3 v7 w' => ∃ (x3_1 : List (S29)) (x7_1 : Int), v7 = .int .i64 x7_1 ∧ Aside0 (impl_spansOf.l0 p kq x3_1 x7_1 = some r) ∧ Aside0 (kq ≤ k) ∧ Aside0 (Kd.R k29 29 w' w.heap.size (fun _ => True) v3 x3_1) ∧ Aside0 (Below w.heap.size w w'))
  case atStart => exact ⟨(y117), (0), (by first | rfl | (simp; done) | (simp [*]; done)), H', ⟨Nat.le_refl _⟩, ⟨by (with_reducible repeat (first | apply Kd.R_alloc | apply Kd.R_drewN | apply Kd.R_drew)); exact HO119.out⟩, ⟨by repeat (first | (with_reducible first | exact HB.out | apply below_alloc | apply pw_below_drewN | apply below_drew1) | exact HB.out)⟩⟩
  case round =>
    clear H'
    try clear c2
    try clear p2
    obtain ⟨x3_1, x7_1, rfl, HA, HK1, HO_3, HB⟩ := hrel
    cases gk with
    | zero => exact absurd HA.out (by simp [impl_spansOf.l0])
    | succ k1 =>
      have H := HA.out
      clear HA
      simp only [impl_spansOf.l0] at H
      by_cases c4 : x7_1 < 1440
      · rw [if_pos c4] at H
        have c4b0 : decide (x7_1 < 1440) = true := decide_eq_true c4
        clear c4
        replace H := Option.bind_eq_some_iff.mp H
        obtain ⟨t120, A50, H⟩ := H
        replace H : (if t120 = true then (if (wrap64 ((x3_1.length : Int) - 1)) ≥ 0 then (if 0 ≤ (wrap64 ((x3_1.length : Int) - 1)) then (if (wrap64 ((x3_1.length : Int) - 1)) < (x3_1.length : Int) then (if ((rd_T29 x3_1 (wrap64 ((x3_1.length : Int) - 1))).f1) = x7_1 then (impl_spansOf.l0 p k1 (x3_1.set ((wrap64 ((x3_1.length : Int) - 1)) : Int).toNat (⟨(rd_T29 x3_1 (wrap64 ((x3_1.length : Int) - 1))).f0, wrap64 (((rd_T29 x3_1 (wrap64 ((x3_1.length : Int) - 1))).f1) + 1)⟩ : S29)) (wrap64 (x7_1 + 1))) else (if x3_1.length < 8796093022208 then (impl_spansOf.l0 p k1 (x3_1 ++ [(⟨x7_1, wrap64 (x7_1 + 1)⟩ : S29)]) (wrap64 (x7_1 + 1))) else (none))) else (none)) else (none)) else (if x3_1.length < 8796093022208 then (impl_spansOf.l0 p k1 (x3_1 ++ [(⟨x7_1, wrap64 (x7_1 + 1)⟩ : S29)]) (wrap64 (x7_1 + 1))) else (none))) else (impl_spansOf.l0 p k1 x3_1 (wrap64 (x7_1 + 1)))) = some r := H
        have A5 := Aside0.mk A50
        clear A50
        by_cases c6 : t120 = true
        · subst c6
          have H1 : (if (wrap64 ((x3_1.length : Int) - 1)) ≥ 0 then (if 0 ≤ (wrap64 ((x3_1.length : Int) - 1)) then (if (wrap64 ((x3_1.length : Int) - 1)) < (x3_1.length : Int) then (if ((rd_T29 x3_1 (wrap64 ((x3_1.length : Int) - 1))).f1) = x7_1 then (impl_spansOf.l0 p k1 (x3_1.set ((wrap64 ((x3_1.length : Int) - 1)) : Int).toNat (⟨(rd_T29 x3_1 (wrap64 ((x3_1.length : Int) - 1))).f0, wrap64 (((rd_T29 x3_1 (wrap64 ((x3_1.length : Int) - 1))).f1) + 1)⟩ : S29)) (wrap64 (x7_1 + 1))) else (if x3_1.length < 8796093022208 then (impl_spansOf.l0 p k1 (x3_1 ++ [(⟨x7_1, wrap64 (x7_1 + 1)⟩ : S29)]) (wrap64 (x7_1 + 1))) else (none))) else (none)) else (none)) else (if x3_1.length < 8796093022208 then (impl_spansOf.l0 p k1 (x3_1 ++ [(⟨x7_1, wrap64 (x7_1 + 1)⟩ : S29)]) (wrap64 (x7_1 + 1))) else (none))) = some r := by rw [if_pos rfl] at H; exact H
          clear H
          have H := H1
          clear H1
          by_cases c7 : (wrap64 ((x3_1.length : Int) - 1)) ≥ 0
          · rw [if_pos c7] at H
            have c7b0 : decide (0 ≤ (wrap64 ((x3_1.length : Int) - 1))) = true := decide_eq_true c7
            clear c7
            obtain ⟨ji8, hji8⟩ : ∃ j_ : Int, (wrap64 ((x3_1.length : Int) - 1)) = j_ := ⟨_, rfl⟩
            replace H : (if 0 ≤ (ji8) then (if (ji8) < (x3_1.length : Int) then (if ((rd_T29 x3_1 (ji8)).f1) = x7_1 then (impl_spansOf.l0 p k1 (x3_1.set ((ji8) : Int).toNat (⟨(rd_T29 x3_1 (ji8)).f0, wrap64 (((rd_T29 x3_1 (ji8)).f1) + 1)⟩ : S29)) (wrap64 (x7_1 + 1))) else (if x3_1.length < 8796093022208 then (impl_spansOf.l0 p k1 (x3_1 ++ [(⟨x7_1, wrap64 (x7_1 + 1)⟩ : S29)]) (wrap64 (x7_1 + 1))) else (none))) else (none)) else (none)) = some r := by first | (rw [hji8] at H; exact H) | (simp only [hji8] at H ⊢; exact H)
            (try rw [hji8] at c7b0)
            (try rw [hji8] at A5)
            have hji8w : (IntKind.i64.wrap ((x3_1.length : Int) - 1)) = ji8 := (i64_w _).trans hji8
            by_cases c9 : 0 ≤ (ji8)
            · rw [if_pos c9] at H
              have c9b0 : decide (0 ≤ (ji8)) = true := decide_eq_true c9
              clear c9
              by_cases c10 : (ji8) < (x3_1.length : Int)
              · rw [if_pos c10] at H
                have c10b0 : decide ((ji8) < (x3_1.length : Int)) = true := decide_eq_true c10
                clear c10
                by_cases c11 : ((rd_T29 x3_1 (ji8)).f1) = x7_1
                · rw [if_pos c11] at H
                  have c11b0 : (((rd_T29 x3_1 (ji8)).f1) == x7_1) = true := beq_iff_eq.mpr c11
                  have c11b1 : (((rd_T29 x3_1 (ji8)).f1) != x7_1) = false := bne_eq_false_iff_eq.mpr c11
                  clear c11
                  obtain ⟨y123, hy123⟩ : ∃ y_ : List (S29), y_ = (x3_1.set ((ji8) : Int).toNat (⟨(rd_T29 x3_1 (ji8)).f0, wrap64 (((rd_T29 x3_1 (ji8)).f1) + 1)⟩ : S29)) := ⟨_, rfl⟩
                  replace H : (impl_spansOf.l0 p k1 y123 (wrap64 (x7_1 + 1))) = some r := by first | (rw [hy123]; with_reducible exact H) | (have H2_ := (Option.bind_some _ _).symm.trans H; rw [hy123]; with_reducible exact H2_) | (have H2_ := (Option.bind_some _ _).symm.trans H; with_reducible exact H2_) | with_reducible exact H | (rw [hy123]; exact H) | exact H
                  have Ny123 := Aside0.mk hy123
                  clear hy123
                  have H' := Aside0.mk H
                  clear H
                  obtain ⟨Ao13, co13, eo13⟩ := Kd.R_slice HO_3.out
                  subst eo13
                  go_wp2_with fail
                  refine (PRE.out _ x7_1 true HB.out A5.out).mono ?_
                  rintro e w14 ⟨rfl, hb⟩
                  have n0_ := Aside0.mk (Kd.R_below (by (with_reducible repeat (first | apply Kd.R_alloc | apply Kd.R_drewN | apply Kd.R_drew)); exact HO_3.out) hb)
                  have n1_ := Aside0.mk (below_step (by repeat (first | (with_reducible first | exact HB.out | apply below_alloc | apply pw_below_drewN | apply below_drew1) | exact HB.out)) hb)
                  clear HO_3
                  clear HB
                  have HO_3 := n0_
                  have HB := n1_
                  clear n0_ n1_
                  (try clear hb)
                  (try clear hb2)
                  (try clear hk)
                  (try clear hi)
                  have p121 : 0 ≤ ((ji8) : Int) := of_decide_eq_true (by first | (with_reducible assumption) | assumption)
                  have q121 : (ji8) < (x3_1.length : Int) := of_decide_eq_true (by first | (with_reducible assumption) | assumption)
                  obtain ⟨ad121, e121, hx121_0, hx121_1⟩ := at_T29 (Kd.R_reads' HO_3.out).2.2 (ji8) p121 q121
                  cases e121
                  replace p121 := eq_true p121
                  replace q121 := eq_true q121
                  have p122 : 0 ≤ ((ji8) : Int) := of_decide_eq_true (by first | (with_reducible assumption) | assumption)
                  have q122 : (ji8) < (x3_1.length : Int) := of_decide_eq_true (by first | (with_reducible assumption) | assumption)
                  obtain ⟨ad122, e122, hx122_0, hx122_1⟩ := at_T29 (Kd.R_reads' HO_3.out).2.2 (ji8) p122 q122
                  obtain rfl : ad121 = ad122 := (by injection e122)
                  replace p122 := eq_true p122
                  replace q122 := eq_true q122
                  have p12 : 0 ≤ ((ji8) : Int) := of_decide_eq_true (by first | (with_reducible assumption) | assumption)
                  have q12 : ((ji8) : Int) < ((x3_1.length : Int) : Int) := of_decide_eq_true (by first | (with_reducible assumption) | assumption)
                  obtain ⟨go12, co12, eo12, gb12, gl12, cl12, HG12⟩ := Kd.R_form HO_3.out (by omega)
                  (first | cases eo12 | (injection eo12 with ea_ en_ ec_; (first | subst ea_ | (injection ea_ with ea_; subst ea_)); subst ec_; clear en_))
                  have GB12 := Aside0.mk gb12
                  have GG12 := Aside0.mk HG12
                  clear gb12 gl12 HG12
                  (first | simp only [add_plain] at hx121_0 | skip)
                  (first | simp only [add_plain] at hx121_1 | skip)
                  (first | simp only [add_plain] at hx122_0 | skip)
                  (first | simp only [add_plain] at hx122_1 | skip)
                  obtain ⟨ce12, hcl12, hM12, hcc12, hfr12⟩ := Kd.R_elem HO_3.out z29 ((ji8) : Int) p12 q12
                  obtain rfl := k29_openM hM12
                  have hx12_0 : w14.cell? ⟨go12, ((ji8) : Int).toNat * 2, none⟩ = some (.int .i64 ((rd_T29 x3_1 (ji8)).f0)) := hcc12 0 _ rfl
                  have hx12_1 : w14.cell? ⟨go12, ((ji8) : Int).toNat * 2 + 1, none⟩ = some (.int .i64 ((rd_T29 x3_1 (ji8)).f1)) := hcc12 1 _ rfl
                  have hf12_0 : w14.frozen? ⟨go12, ((ji8) : Int).toNat * 2, none⟩ = false := hfr12 0
                  have hf12_1 : w14.frozen? ⟨go12, ((ji8) : Int).toNat * 2 + 1, none⟩ = false := hfr12 1
                  clear hcl12 hcc12 hfr12 hM12
                  replace p12 := eq_true p12
                  replace q12 := eq_true q12
                  have HX15 := Aside0.mk (show Kd.R k29 29 w14 w.heap.size (fun _ => True) (.slice (some ⟨go12, 0, none⟩) x3_1.length co13) x3_1 from (by (with_reducible repeat (first | apply Kd.R_alloc | apply Kd.R_drewN | apply Kd.R_drew)); exact HO_3.out))
                  obtain ⟨ce15, hcl15, hM15, hcc15, hfr15⟩ := Kd.R_elem HX15.out z29 ((ji8) : Int) (of_decide_eq_true (by first | (with_reducible assumption) | assumption)) (by have h_ : ((ji8) : Int) < ((x3_1.length : Int) : Int) := of_decide_eq_true (by first | (with_reducible assumption) | assumption); first | exact h_ | (have e_ := (Kd.R_reads' HO_3.out).1; omega) | simpa using h_)
                  obtain rfl := k29_openM hM15
                  have HP15 := Kd.R_seg HX15.out ((ji8) : Int) (of_decide_eq_true (by first | (with_reducible assumption) | assumption)) (by have h_ : ((ji8) : Int) < ((x3_1.length : Int) : Int) := of_decide_eq_true (by first | (with_reducible assumption) | assumption); first | exact h_ | (have e_ := (Kd.R_reads' HO_3.out).1; omega) | simpa using h_) (seg := [.int .i64 (wrap64 (((rd_T29 x3_1 (ji8)).f1) + 1))]) (j := 1) hcl15 hcc15 (show 2 ≤ 2 from by decide) (x' := (⟨(rd_T29 x3_1 (ji8)).f0, wrap64 (((rd_T29 x3_1 (ji8)).f1) + 1)⟩ : S29)) (k29_mkM _ _ _ (⟨(rd_T29 x3_1 (ji8)).f0, wrap64 (((rd_T29 x3_1 (ji8)).f1) + 1)⟩ : S29) ) (fun _ hk => hk)
                  have hx15_1 := hcc15 1 _ rfl
                  (try simp only [show (k29).sz = 2 from rfl, Nat.mul_one, Nat.add_zero] at hx15_1)
                  have hf15_1 := hfr15 1
                  (try simp only [show (k29).sz = 2 from rfl, Nat.mul_one, Nat.add_zero] at hf15_1)
                  clear hcl15 hcc15 hfr15 hM15
                  go_wp2_with (first | ((with_reducible refine gate_store (t := 3) (p := 44) rfl ?_); refine store_event (t := 3) (p := 44) (v := ?vo_w16) (w1 := (w14.setCell ⟨go12, ((ji8) : Int).toNat * 2 + 1, none⟩ (.int .i64 (wrap64 (((rd_T29 x3_1 (ji8)).f1) + 1))))) ?hg ?ho ?hn ?hr ?_; (case ho => rfl); (case hg => rfl); (case hn => rfl); (case hr => first | (go_simp; done) | (go_simp; rfl)); intro w16 hw; have hg : w14.grownBy w16 (some go12) := (by rw [hw]; exact HP15.2); have hp_ : Kd.R k29 29 w16 w.heap.size (fun _ => True) (.slice (some ⟨go12, 0, none⟩) x3_1.length co13) y123 := (by rw [hw, Ny123.out]; exact HP15.1); clear HP15; have n0_ := Aside0.mk (hp_); have n1_ := Aside0.mk ((by rw [hw]; exact below_set (HB.out) GB12.out : Below w.heap.size w w16)); clear HO_3; clear HB; have HO_3 := n0_; have HB := n1_; clear n0_ n1_; clear hg hw hp_))
                  go_roundg k1
                  case measure => have := HK1.out; omega
                  case rel => exact ⟨(y123), (wrap64 (x7_1 + 1)), (by first | rfl | (simp; done) | (simp [*]; done)), H', ⟨by have := HK1.out; omega⟩, ⟨by (with_reducible repeat (first | apply Kd.R_alloc | apply Kd.R_drewN | apply Kd.R_drew)); exact HO_3.out⟩, ⟨by repeat (first | (with_reducible first | exact HB.out | apply below_alloc | apply pw_below_drewN | apply below_drew1) | exact HB.out)⟩⟩
                · rw [if_neg c11] at H
                  have c11b0 : (((rd_T29 x3_1 (ji8)).f1) == x7_1) = false := beq_eq_false_iff_ne.mpr c11
                  have c11b1 : (((rd_T29 x3_1 (ji8)).f1) != x7_1) = true := bne_iff_ne.mpr c11
                  by_cases c17 : x3_1.length < 8796093022208
                  · rw [if_pos c17] at H
                    have LMc17 := Aside0.mk c17
                    clear c17
                    obtain ⟨y124, hy124⟩ : ∃ y_ : List (S29), y_ = (x3_1 ++ [(⟨x7_1, wrap64 (x7_1 + 1)⟩ : S29)]) := ⟨_, rfl⟩
                    replace H : (impl_spansOf.l0 p k1 y124 (wrap64 (x7_1 + 1))) = some r := by first | (rw [hy124]; with_reducible exact H) | (have H2_ := (Option.bind_some _ _).symm.trans H; rw [hy124]; with_reducible exact H2_) | (have H2_ := (Option.bind_some _ _).symm.trans H; with_reducible exact H2_) | with_reducible exact H | (rw [hy124]; exact H) | exact H
                    have Ny124 := Aside0.mk hy124
                    clear hy124
                    have H' := Aside0.mk H
                    clear H
                    obtain ⟨Ao18, co18, eo18⟩ := Kd.R_slice HO_3.out
                    subst eo18
                    go_wp2_with fail
                    refine (PRE.out _ x7_1 true HB.out A5.out).mono ?_
                    rintro e w19 ⟨rfl, hb⟩
                    have n0_ := Aside0.mk (Kd.R_below (by (with_reducible repeat (first | apply Kd.R_alloc | apply Kd.R_drewN | apply Kd.R_drew)); exact HO_3.out) hb)
                    have n1_ := Aside0.mk (below_step (by repeat (first | (with_reducible first | exact HB.out | apply below_alloc | apply pw_below_drewN | apply below_drew1) | exact HB.out)) hb)
                    clear HO_3
                    clear HB
                    have HO_3 := n0_
                    have HB := n1_
                    clear n0_ n1_
                    (try clear hb)
                    (try clear hb2)
                    (try clear hk)
                    (try clear hi)
                    have p121 : 0 ≤ ((ji8) : Int) := of_decide_eq_true (by first | (with_reducible assumption) | assumption)
                    have q121 : (ji8) < (x3_1.length : Int) := of_decide_eq_true (by first | (with_reducible assumption) | assumption)
                    obtain ⟨ad121, e121, hx121_0, hx121_1⟩ := at_T29 (Kd.R_reads' HO_3.out).2.2 (ji8) p121 q121
                    cases e121
                    replace p121 := eq_true p121
                    replace q121 := eq_true q121
                    go_wp2_with (first | ((with_reducible refine gate_builtin (b := .append) (xs := #[.tmp 13, .tmp 18]) rfl ?_); at_builtin; refine Kd.R_append k29 (w0 := w) w.heap.size rfl (.tmp 13) (.tmp 18) 23 29 (.agg #[(.int .i64 0), (.int .i64 0)]) 16 rfl Try.underlying23 info29 rfl (by decide) (by omega) (.slice (some ad121) x3_1.length co18) x3_1 (⟨x7_1, wrap64 (x7_1 + 1)⟩ : S29) [.int .i64 x7_1, .int .i64 (wrap64 (x7_1 + 1))] (fun _ => True) (fun _ => False) rfl rfl ?aP (fun _ hk => hk.elim) ?aF ?aO ?aB ?aS ?aL ?_; (case aP => exact k29_mkM _ _ _ (⟨x7_1, wrap64 (x7_1 + 1)⟩ : S29)); (case aB => exact (by repeat (first | (with_reducible first | exact HB.out | apply below_alloc | apply pw_below_drewN | apply below_drew1) | exact HB.out))); (case aF => exact (fun _ _ => trivial)); (case aO => exact (by (with_reducible repeat (first | apply Kd.R_alloc | apply Kd.R_drewN | apply Kd.R_drew)); exact HO_3.out)); (case aS => exact (below_size (by repeat (first | (with_reducible first | exact HB.out | apply below_alloc | apply pw_below_drewN | apply below_drew1) | exact HB.out)))); (case aL => have := LMc17.out; omega); intro v125 w20 ho hb hg hat; rw [← Ny124.out] at ho; have n0_ := Aside0.mk (hb); have n1_ := Aside0.mk (ho); clear HB; clear HO_3; have HB := n0_; have HO126 := n1_; clear n0_ n1_; clear ho hb hg hat))
                    go_roundg k1
                    case measure => have := HK1.out; omega
                    case rel => exact ⟨(y124), (wrap64 (x7_1 + 1)), (by first | rfl | (simp; done) | (simp [*]; done)), H', ⟨by have := HK1.out; omega⟩, ⟨by (with_reducible repeat (first | apply Kd.R_alloc | apply Kd.R_drewN | apply Kd.R_drew)); exact HO126.out⟩, ⟨by repeat (first | (with_reducible first | exact HB.out | apply below_alloc | apply pw_below_drewN | apply below_drew1) | exact HB.out)⟩⟩
                  · rw [if_neg c17] at H
                    exact absurd H (by simp)
              · rw [if_neg c10] at H
                exact absurd H (by simp)
            · rw [if_neg c9] at H
              exact absurd H (by simp)
          · rw [if_neg c7] at H
            have c7b0 : decide (0 ≤ (wrap64 ((x3_1.length : Int) - 1))) = false := decide_eq_false c7
            clear c7
            by_cases c21 : x3_1.length < 8796093022208
            · rw [if_pos c21] at H
              have LMc21 := Aside0.mk c21
              clear c21
              obtain ⟨y127, hy127⟩ : ∃ y_ : List (S29), y_ = (x3_1 ++ [(⟨x7_1, wrap64 (x7_1 + 1)⟩ : S29)]) := ⟨_, rfl⟩
              replace H : (impl_spansOf.l0 p k1 y127 (wrap64 (x7_1 + 1))) = some r := by first | (rw [hy127]; with_reducible exact H) | (have H2_ := (Option.bind_some _ _).symm.trans H; rw [hy127]; with_reducible exact H2_) | (have H2_ := (Option.bind_some _ _).symm.trans H; with_reducible exact H2_) | with_reducible exact H | (rw [hy127]; exact H) | exact H
              have Ny127 := Aside0.mk hy127
              clear hy127
              have H' := Aside0.mk H
              clear H
              obtain ⟨Ao22, co22, eo22⟩ := Kd.R_slice HO_3.out
              subst eo22
              go_wp2_with fail
              refine (PRE.out _ x7_1 true HB.out A5.out).mono ?_
              rintro e w23 ⟨rfl, hb⟩
              have n0_ := Aside0.mk (Kd.R_below (by (with_reducible repeat (first | apply Kd.R_alloc | apply Kd.R_drewN | apply Kd.R_drew)); exact HO_3.out) hb)
              have n1_ := Aside0.mk (below_step (by repeat (first | (with_reducible first | exact HB.out | apply below_alloc | apply pw_below_drewN | apply below_drew1) | exact HB.out)) hb)
              clear HO_3
              clear HB
              have HO_3 := n0_
              have HB := n1_
              clear n0_ n1_
              (try clear hb)
              (try clear hb2)
              (try clear hk)
              (try clear hi)
              go_wp2_with (first | ((with_reducible refine gate_builtin (b := .append) (xs := #[.tmp 13, .tmp 18]) rfl ?_); at_builtin; refine Kd.R_append k29 (w0 := w) w.heap.size rfl (.tmp 13) (.tmp 18) 23 29 (.agg #[(.int .i64 0), (.int .i64 0)]) 16 rfl Try.underlying23 info29 rfl (by decide) (by omega) (.slice Ao22 x3_1.length co22) x3_1 (⟨x7_1, wrap64 (x7_1 + 1)⟩ : S29) [.int .i64 x7_1, .int .i64 (wrap64 (x7_1 + 1))] (fun _ => True) (fun _ => False) rfl rfl ?aP (fun _ hk => hk.elim) ?aF ?aO ?aB ?aS ?aL ?_; (case aP => exact k29_mkM _ _ _ (⟨x7_1, wrap64 (x7_1 + 1)⟩ : S29)); (case aB => exact (by repeat (first | (with_reducible first | exact HB.out | apply below_alloc | apply pw_below_drewN | apply below_drew1) | exact HB.out))); (case aF => exact (fun _ _ => trivial)); (case aO => exact (by (with_reducible repeat (first | apply Kd.R_alloc | apply Kd.R_drewN | apply Kd.R_drew)); exact HO_3.out)); (case aS => exact (below_size (by repeat (first | (with_reducible first | exact HB.out | apply below_alloc | apply pw_below_drewN | apply below_drew1) | exact HB.out)))); (case aL => have := LMc21.out; omega); intro v128 w24 ho hb hg hat; rw [← Ny127.out] at ho; have n0_ := Aside0.mk (hb); have n1_ := Aside0.mk (ho); clear HB; clear HO_3; have HB := n0_; have HO129 := n1_; clear n0_ n1_; clear ho hb hg hat))
              go_roundg k1
              case measure => have := HK1.out; omega
              case rel => exact ⟨(y127), (wrap64 (x7_1 + 1)), (by first | rfl | (simp; done) | (simp [*]; done)), H', ⟨by have := HK1.out; omega⟩, ⟨by (with_reducible repeat (first | apply Kd.R_alloc | apply Kd.R_drewN | apply Kd.R_drew)); exact HO129.out⟩, ⟨by repeat (first | (with_reducible first | exact HB.out | apply below_alloc | apply pw_below_drewN | apply below_drew1) | exact HB.out)⟩⟩
            · rw [if_neg c21] at H
              exact absurd H (by simp)
        · replace c6 := Bool.eq_false_iff.mpr c6
          subst c6
          have H1 : (impl_spansOf.l0 p k1 x3_1 (wrap64 (x7_1 + 1))) = some r := by rw [if_neg (show ¬ (false = true) by decide)] at H; exact H
          clear H
          have H := H1
          clear H1
          have H' := Aside0.mk H
          clear H
          obtain ⟨Ao25, co25, eo25⟩ := Kd.R_slice HO_3.out
          subst eo25
          go_wp2_with fail
          refine (PRE.out _ x7_1 false HB.out A5.out).mono ?_
          rintro e w26 ⟨rfl, hb⟩
          have n0_ := Aside0.mk (Kd.R_below (by (with_reducible repeat (first | apply Kd.R_alloc | apply Kd.R_drewN | apply Kd.R_drew)); exact HO_3.out) hb)
          have n1_ := Aside0.mk (below_step (by repeat (first | (with_reducible first | exact HB.out | apply below_alloc | apply pw_below_drewN | apply below_drew1) | exact HB.out)) hb)
          clear HO_3
          clear HB
          have HO_3 := n0_
          have HB := n1_
          clear n0_ n1_
          (try clear hb)
          (try clear hb2)
          (try clear hk)
          (try clear hi)
          go_wp2
          go_roundg k1
          case measure => have := HK1.out; omega
          case rel => exact ⟨(x3_1), (wrap64 (x7_1 + 1)), (by first | rfl | (simp; done) | (simp [*]; done)), H', ⟨by have := HK1.out; omega⟩, ⟨by (with_reducible repeat (first | apply Kd.R_alloc | apply Kd.R_drewN | apply Kd.R_drew)); exact HO_3.out⟩, ⟨by repeat (first | (with_reducible first | exact HB.out | apply below_alloc | apply pw_below_drewN | apply below_drew1) | exact HB.out)⟩⟩
      · rw [if_neg c4] at H
        have c4b0 : decide (x7_1 < 1440) = false := decide_eq_false c4
        clear c4
        obtain rfl := Option.some.inj H
        go_wp2
        go_ret
        exact ⟨_, by first | rfl | (simp [errW_none, errW_some] <;> rfl) | (simp [*, errW_none, errW_some] <;> rfl), by (with_reducible repeat (first | apply Kd.R_alloc | apply Kd.R_drewN | apply Kd.R_drew)); exact HO_3.out, by repeat (first | (with_reducible first | exact HB.out | apply below_alloc | apply pw_below_drewN | apply below_drew1) | exact HB.out)⟩

def impl_SpansJoin.f (k : Nat) (l0 : List (S29)) : Option ((List (S29))) := (impl_SpansValid.f k l0).bind fun t => (if t = true then (impl_spansOf.f (spAny l0) k) else (some ([] : List (S29))))
theorem impl_SpansJoin.mono : ∀ a0 k, LeO (impl_SpansJoin.f k a0) (impl_SpansJoin.f (k + 1) a0) := by
  intro a0 k
  unfold impl_SpansJoin.f
  refine LeO.bind (impl_SpansValid.mono _ _) (fun _ => ?_)
  exact LeO.ite (impl_spansOf.mono_l _ _ _ _) (LeO.refl _)
set_option maxHeartbeats 8000000 in
theorem impl_SpansJoin.calls (k : Nat) (A0 : Option Addr) (c0 : Nat) (l0 : List (S29)) (r : List (S29)) (w : World) (hr0 : Kd.C k29 w A0 l0.length l0) (hc0 : l0.length ≤ c0) (h : impl_SpansJoin.f k l0 = some r) :
    Calls Try.prog 11 #[.slice A0 l0.length c0] w fun e w' => ∃ v0_ : Value, e = .returned (v0_) ∧ Kd.R k29 29 w' w.heap.size (fun _ => True) v0_ r ∧ Below w.heap.size w w' := by
  have hu29 := Try.underlying29
  have H : ((impl_SpansValid.f k l0).bind fun t => (if t = true then (impl_spansOf.f (spAny l0) k) else (some ([] : List (S29))))) = some r := h
  clear h
  obtain ⟨t, A20, H⟩ := Option.bind_eq_some_iff.mp H
  replace H : (if t = true then (impl_spansOf.f (spAny l0) k) else (some ([] : List (S29)))) = some r := H
  -- the box of the row, and what is called behind it
  have hb1 : Below w.heap.size w (w.alloc (.cells #[.slice A0 l0.length c0] 23)) := (Below.refl _ w).alloc (Nat.le_refl _) _
  have hv := impl_SpansValid.calls k A0 c0 l0 t (w.alloc (.cells #[.slice A0 l0.length c0] 23)) (Kd.C_alloc hr0 _) hc0 A20
  have HV := Aside0.mk hv
  have HBX := Aside0.mk hb1
  clear hv hb1 A20
  have hso : ∀ w2 : World, Below (w.alloc (.cells #[.slice A0 l0.length c0] 23)).heap.size (w.alloc (.cells #[.slice A0 l0.length c0] 23)) w2 → ∀ r', impl_spansOf.f (spAny l0) k = some r' → Calls Try.prog 28 #[.func (.func 29) #[] #[.pointer (some ⟨w.heap.size, 0, none⟩)]] w2 fun e w' => ∃ v0_ : Value, e = .returned (v0_) ∧ Kd.R k29 29 w' w2.heap.size (fun _ => True) v0_ r' ∧ Below w2.heap.size w2 w' := by
    intro w2 h2 r' hr'
    refine spansOfJoin_calls (spAny l0) k w.heap.size r' w2 ?_ hr'
    intro W m b hW hp
    have hsz : w.heap.size < (w.alloc (.cells #[.slice A0 l0.length c0] 23)).heap.size := by simp
    have hs2 : w.heap.size < w2.heap.size := Nat.lt_of_lt_of_le hsz h2.size
    refine joinPred_calls A0 c0 l0 w.heap.size w2 (Kd.C_below (Kd.C_alloc hr0 _) h2) hc0 hs2 ?_ W m b hW hp
    exact (h2.cell (p := ⟨w.heap.size, 0, none⟩) hsz).trans (by simp)
  have HSO := Aside0.mk hso
  clear hso hr0 hc0
  by_cases c : t = true
  · subst c
    rw [if_pos rfl] at H
    have H' := Aside0.mk H
    clear H
    go_enter Try.func11, Try.ntmps11
    go_wp2_with fail
    refine HV.out.mono ?_
    rintro e w2 ⟨rfl, hb⟩
    have HB2 := Aside0.mk hb
    clear hb
    go_wp2_with fail
    refine (HSO.out w2 HB2.out r H'.out).mono ?_
    rintro e w3 ⟨v, rfl, ho, hb⟩
    have HB3 := Aside0.mk hb
    have HO := Aside0.mk ho
    clear hb ho
    go_wp2
    go_ret
    have hb12 := HBX.out.trans (HB2.out.mono (by simp))
    exact ⟨_, rfl, Kd.R_lower HO.out hb12.size, hb12.trans (HB3.out.mono hb12.size)⟩
  · replace c := Bool.eq_false_iff.mpr c
    subst c
    rw [if_neg (by decide)] at H
    obtain rfl := Option.some.inj H
    clear H
    go_enter Try.func11, Try.ntmps11
    go_wp2_with fail
    refine HV.out.mono ?_
    rintro e w2 ⟨rfl, hb⟩
    have HB2 := Aside0.mk hb
    clear hb
    go_wp2
    go_ret
    have hb12 := HBX.out.trans (HB2.out.mono (by simp))
    exact ⟨_, rfl, Kd.R_nil _ _ _ _ _, hb12⟩

/-! ### laws_FnSpansTwice: function 3 -/
/-- The spans, turned about by one. -/
def rotS (l : List S29) : Option (List S29) := if 0 < l.length ∧ l.length ≤ 1000000 then some (l.drop 1 ++ l.take 1) else none
def laws_FnSpansTwice.j0 : Nat → List (S29) → List (S29) → List (S29) → Bool → Option (Bool)
  | 0, _, _, _, _ => none
  | k + 1, x3, x4, x5, x29 => if x29 = true then ((laws_sameSpans.f k x4 x5).bind fun t203 => (some t203)) else ((rotS x3).bind fun t204 => ((impl_SpansJoin.f k x4).bind fun t207 => ((laws_sameSpans.f k t207 x4).bind fun t210 => (if t210 = true then ((impl_SpansJoin.f k t204).bind fun t211 => ((laws_sameSpans.f k t211 x4).bind fun t214 => (some t214))) else (some false)))))
def laws_FnSpansTwice.f (k : Nat) (l0 : List Int) : Option (Bool) := if (l0.length : Int) > 1048576 then (some true) else ((spec_DrawSpansJoin.f k l0).bind fun t192 => ((impl_SpansJoin.f k t192).bind fun t195 => ((spec_SpansJoin.f k t192).bind fun t198 => ((laws_sameSpans.f k t195 t198).bind fun t201 => (if t201 = true then ((spec_SpansValid.f k t192).bind fun t202 => (if t202 = true then (laws_FnSpansTwice.j0 k t192 t195 t198 ((t192.length : Int) == 0)) else (laws_FnSpansTwice.j0 k t192 t195 t198 true))) else (laws_FnSpansTwice.j0 k t192 t195 t198 true))))))
theorem laws_FnSpansTwice.mono_l : ∀ k, (∀ y0 y1 y2 y3, LeO (laws_FnSpansTwice.j0 k y0 y1 y2 y3) (laws_FnSpansTwice.j0 (k + 1) y0 y1 y2 y3))
  | 0 => fun _ _ _ _ r h => by simp [laws_FnSpansTwice.j0] at h
  | k + 1 => by
    have ih0 := laws_FnSpansTwice.mono_l k
    · intro y0 y1 y2 y3
      unfold laws_FnSpansTwice.j0
      repeat' first
      | (with_reducible exact ih0 _ _ _ _)
      | (with_reducible exact impl_SpansJoin.mono _ _)
      | (with_reducible exact laws_sameSpans.mono _ _ _)
      | (with_reducible exact spec_DrawSpansJoin.mono _ _)
      | (with_reducible exact spec_SpansJoin.mono _ _)
      | (with_reducible exact spec_SpansValid.mono _ _)
      | (with_reducible exact LeO.refl _)
      | (with_reducible exact LeO.none _)
      | (with_reducible refine LeO.ite ?_ ?_)
      | (with_reducible refine LeO.bind ?_ (fun _ => ?_))
      | exact ih0 _ _ _ _
      | exact impl_SpansJoin.mono _ _
      | exact laws_sameSpans.mono _ _ _
      | exact spec_DrawSpansJoin.mono _ _
      | exact spec_SpansJoin.mono _ _
      | exact spec_SpansValid.mono _ _
      | exact LeO.none _
      | refine LeO.ite ?_ ?_
      | refine LeO.bind ?_ (fun _ => ?_)
theorem laws_FnSpansTwice.mono : ∀ a0 k, LeO (laws_FnSpansTwice.f k a0) (laws_FnSpansTwice.f (k + 1) a0) := by
  intro a0 k
  have ih0 := laws_FnSpansTwice.mono_l k
  unfold laws_FnSpansTwice.f
  repeat' first
      | (with_reducible exact ih0 _ _ _ _)
      | (with_reducible exact impl_SpansJoin.mono _ _)
      | (with_reducible exact laws_sameSpans.mono _ _ _)
      | (with_reducible exact spec_DrawSpansJoin.mono _ _)
      | (with_reducible exact spec_SpansJoin.mono _ _)
      | (with_reducible exact spec_SpansValid.mono _ _)
      | (with_reducible exact LeO.refl _)
      | (with_reducible exact LeO.none _)
      | (with_reducible refine LeO.ite ?_ ?_)
      | (with_reducible refine LeO.bind ?_ (fun _ => ?_))
      | exact ih0 _ _ _ _
      | exact impl_SpansJoin.mono _ _
      | exact laws_sameSpans.mono _ _ _
      | exact spec_DrawSpansJoin.mono _ _
      | exact spec_SpansJoin.mono _ _
      | exact spec_SpansValid.mono _ _
      | exact LeO.none _
      | refine LeO.ite ?_ ?_
      | refine LeO.bind ?_ (fun _ => ?_)
def laws_FnSpansTwice.T8 : Bool × List (List Nat × List Nat) := (true, [([], []), ([], []), ([1], [1]), ([0, 2], [0, 2]), ([], []), ([4], [4]), ([5], [5]), ([6], [6]), ([3, 7, 3], [3, 7]), ([8, 8, 0, 1, 2, 3, 4, 5, 6, 7, 8], [8])])
def laws_FnSpansTwice.B8 : List Nat := [0, 0, 2, 7, 0, 16, 48, 112, 255, 511]
theorem laws_FnSpansTwice.tab8 : rtab .any (opsOf Try.f3 8) = laws_FnSpansTwice.T8 := by kernel_rfl
theorem laws_FnSpansTwice.bits8 : waitsOk laws_FnSpansTwice.T8.2 laws_FnSpansTwice.B8 = true := by kernel_rfl
set_option maxHeartbeats 8000000 in
set_option maxRecDepth 100000 in
theorem laws_FnSpansTwice.calls (k : Nat) (A0 : Option Addr) (c0 : Nat) (l0 : List Int) (r : Bool) (w : World) (hr0 : Kd.C (Kd.int .u8) w A0 l0.length l0) (hc0 : l0.length ≤ c0) (hr : Aside0 (r = true)) (h : laws_FnSpansTwice.f k l0 = some r) :
    Calls Try.prog 3 #[.slice A0 l0.length c0] w fun e w' => e = .returned (.bool r) ∧ Below w.heap.size w w' := by
  have HR0 := Aside0.mk hr0
  have HC0 := Aside0.mk hc0
  clear hr0 hc0
  have HB := Aside0.mk (Below.refl w.heap.size w)
  have H : (if (l0.length : Int) > 1048576 then (some true) else ((spec_DrawSpansJoin.f k l0).bind fun t192 => ((impl_SpansJoin.f k t192).bind fun t195 => ((spec_SpansJoin.f k t192).bind fun t198 => ((laws_sameSpans.f k t195 t198).bind fun t201 => (if t201 = true then ((spec_SpansValid.f k t192).bind fun t202 => (if t202 = true then (laws_FnSpansTwice.j0 k t192 t195 t198 ((t192.length : Int) == 0)) else (laws_FnSpansTwice.j0 k t192 t195 t198 true))) else (laws_FnSpansTwice.j0 k t192 t195 t198 true))))))) = some r := h
  clear h
  by_cases c2 : (l0.length : Int) > 1048576
  · rw [if_pos c2] at H
    have c2b0 : decide (1048576 < (l0.length : Int)) = true := decide_eq_true c2
    have c2b1 : decide (1048576 < l0.length) = true := decide_eq_true (by omega)
    clear c2
    obtain rfl := Option.some.inj H
    go_enter Try.func3, Try.ntmps3
    go_wp2
    go_ret
    exact ⟨by first | rfl | (simp [errW_none, errW_some] <;> rfl) | (simp [*, errW_none, errW_some] <;> rfl), by repeat (first | (with_reducible first | exact HB.out | apply below_alloc | apply pw_below_drewN | apply below_drew1) | exact HB.out)⟩
  · rw [if_neg c2] at H
    have c2b0 : decide (1048576 < (l0.length : Int)) = false := decide_eq_false c2
    have c2b1 : decide (1048576 < l0.length) = false := decide_eq_false (by omega)
    clear c2
    replace H := Option.bind_eq_some_iff.mp H
    obtain ⟨t192, A30, H⟩ := H
    replace H : ((impl_SpansJoin.f k t192).bind fun t195 => ((spec_SpansJoin.f k t192).bind fun t198 => ((laws_sameSpans.f k t195 t198).bind fun t201 => (if t201 = true then ((spec_SpansValid.f k t192).bind fun t202 => (if t202 = true then (laws_FnSpansTwice.j0 k t192 t195 t198 ((t192.length : Int) == 0)) else (laws_FnSpansTwice.j0 k t192 t195 t198 true))) else (laws_FnSpansTwice.j0 k t192 t195 t198 true))))) = some r := H
    have A3 := Aside0.mk A30
    clear A30
    replace H := Option.bind_eq_some_iff.mp H
    obtain ⟨t195, A40, H⟩ := H
    replace H : ((spec_SpansJoin.f k t192).bind fun t198 => ((laws_sameSpans.f k t195 t198).bind fun t201 => (if t201 = true then ((spec_SpansValid.f k t192).bind fun t202 => (if t202 = true then (laws_FnSpansTwice.j0 k t192 t195 t198 ((t192.length : Int) == 0)) else (laws_FnSpansTwice.j0 k t192 t195 t198 true))) else (laws_FnSpansTwice.j0 k t192 t195 t198 true)))) = some r := H
    have A4 := Aside0.mk A40
    clear A40
    replace H := Option.bind_eq_some_iff.mp H
    obtain ⟨t198, A50, H⟩ := H
    replace H : ((laws_sameSpans.f k t195 t198).bind fun t201 => (if t201 = true then ((spec_SpansValid.f k t192).bind fun t202 => (if t202 = true then (laws_FnSpansTwice.j0 k t192 t195 t198 ((t192.length : Int) == 0)) else (laws_FnSpansTwice.j0 k t192 t195 t198 true))) else (laws_FnSpansTwice.j0 k t192 t195 t198 true))) = some r := H
    have A5 := Aside0.mk A50
    clear A50
    have HC6 := Aside0.mk H
    clear H
    go_enter Try.func3, Try.ntmps3
    go_upto_region 6 with (first | ((with_reducible refine gate_callee (f := 10) rfl ?_); refine goesL_ (some 11) rfl rfl Try.func10 (by kernel_rfl) rfl #[.slice A0 l0.length c0] rfl (by (try simp only [List.map_toArray, List.map_cons, List.map_nil]); first | done | rfl | (simp only [List.length_drop, List.length_take]; rfl)) ?_; (with_reducible refine (spec_DrawSpansJoin.calls k _ _ l0 t192 _ ?side1 ?side2 A3.out).mono ?_); (case side1 => repeat (first | exact HR0.out | (with_reducible refine Kd.C_alloc ?_ _) | (with_reducible refine Kd.C_drewN ?_ _) | (with_reducible refine Kd.C_drew ?_))); (case side2 => exact HC0.out); rintro e w7 ⟨v193, rfl, ho0, hb⟩; refine ⟨_, rfl, ?_⟩; have n0_ := Aside0.mk (Kd.R_lower ho0 (below_size (by repeat (first | (with_reducible first | exact HB.out | apply below_alloc | apply pw_below_drewN | apply below_drew1) | exact HB.out)))); have n1_ := Aside0.mk (below_step (by repeat (first | (with_reducible first | exact HB.out | apply below_alloc | apply pw_below_drewN | apply below_drew1) | exact HB.out)) hb); clear HB; have HO194 := n0_; have HB := n1_; clear n0_ n1_; (try clear hb); (try clear hb2); (try clear hk); (try clear hi); (try clear ho0); obtain ⟨Ao8, co8, eo8⟩ := Kd.R_slice HO194.out; subst eo8) | ((with_reducible refine gate_callee (f := 11) rfl ?_); refine goesL_ (some 13) rfl rfl Try.func11 (by kernel_rfl) rfl #[.slice Ao8 t192.length co8] rfl (by (try simp only [List.map_toArray, List.map_cons, List.map_nil]); first | done | rfl | (simp only [List.length_drop, List.length_take]; rfl)) ?_; (with_reducible refine (impl_SpansJoin.calls k _ _ t192 t195 _ ?side1 ?side2 A4.out).mono ?_); (case side1 => repeat (first | exact (Kd.R_reads' HO194.out).2.2 | (with_reducible refine Kd.C_alloc ?_ _) | (with_reducible refine Kd.C_drewN ?_ _) | (with_reducible refine Kd.C_drew ?_))); (case side2 => exact (Kd.R_reads' HO194.out).2.1); rintro e w9 ⟨v196, rfl, ho0, hb⟩; refine ⟨_, rfl, ?_⟩; have n0_ := Aside0.mk (Kd.R_elder' (by (with_reducible repeat (first | apply Kd.R_alloc | apply Kd.R_drewN | apply Kd.R_drew)); exact HO194.out) (Kd.R_base ho0) hb); have n1_ := Aside0.mk (Kd.R_lower (Kd.R_new' ho0 (Kd.R_lt (by (with_reducible repeat (first | apply Kd.R_alloc | apply Kd.R_drewN | apply Kd.R_drew)); exact HO194.out))) (below_size (by repeat (first | (with_reducible first | exact HB.out | apply below_alloc | apply pw_below_drewN | apply below_drew1) | exact HB.out)))); have n2_ := Aside0.mk (below_step (by repeat (first | (with_reducible first | exact HB.out | apply below_alloc | apply pw_below_drewN | apply below_drew1) | exact HB.out)) hb); clear HO194; clear HB; have HO194 := n0_; have HO197 := n1_; have HB := n2_; clear n0_ n1_ n2_; (try clear hb); (try clear hb2); (try clear hk); (try clear hi); (try clear ho0)) | ((with_reducible refine gate_callee (f := 12) rfl ?_); refine goesL_ (some 15) rfl rfl Try.func12 (by kernel_rfl) rfl #[.slice Ao8 t192.length co8] rfl (by (try simp only [List.map_toArray, List.map_cons, List.map_nil]); first | done | rfl | (simp only [List.length_drop, List.length_take]; rfl)) ?_; (with_reducible refine (spec_SpansJoin.calls k _ _ t192 t198 _ ?side1 ?side2 A5.out).mono ?_); (case side1 => repeat (first | exact (Kd.R_reads' HO194.out).2.2 | (with_reducible refine Kd.C_alloc ?_ _) | (with_reducible refine Kd.C_drewN ?_ _) | (with_reducible refine Kd.C_drew ?_))); (case side2 => exact (Kd.R_reads' HO194.out).2.1); rintro e w10 ⟨v199, rfl, ho0, hb⟩; refine ⟨_, rfl, ?_⟩; have n0_ := Aside0.mk (Kd.R_elder' (by (with_reducible repeat (first | apply Kd.R_alloc | apply Kd.R_drewN | apply Kd.R_drew)); exact HO194.out) (Kd.R_base ho0) hb); have n1_ := Aside0.mk (Kd.R_elder' (by (with_reducible repeat (first | apply Kd.R_alloc | apply Kd.R_drewN | apply Kd.R_drew)); exact HO197.out) (Kd.R_base ho0) hb); have n2_ := Aside0.mk (Kd.R_lower (Kd.R_new' (Kd.R_new' ho0 (Kd.R_lt (by (with_reducible repeat (first | apply Kd.R_alloc | apply Kd.R_drewN | apply Kd.R_drew)); exact HO194.out))) (Kd.R_lt (by (with_reducible repeat (first | apply Kd.R_alloc | apply Kd.R_drewN | apply Kd.R_drew)); exact HO197.out))) (below_size (by repeat (first | (with_reducible first | exact HB.out | apply below_alloc | apply pw_below_drewN | apply below_drew1) | exact HB.out)))); have n3_ := Aside0.mk (below_step (by repeat (first | (with_reducible first | exact HB.out | apply below_alloc | apply pw_below_drewN | apply below_drew1) | exact HB.out)) hb); clear HO194; clear HO197; clear HB; have HO194 := n0_; have HO197 := n1_; have HO200 := n2_; have HB := n3_; clear n0_ n1_ n2_ n3_; (try clear hb); (try clear hb2); (try clear hk); (try clear hi); (try clear ho0)))
    (try simp only [Act.put, List.setIfInBounds_toArray, List.set_cons_zero, List.set_cons_succ])
    go_cut [29] (fun v29 wc => ∃ (kq : Nat) (x29_5 : Bool), v29 = .bool x29_5 ∧ Aside0 (laws_FnSpansTwice.j0 kq t192 t195 t198 x29_5 = some r) ∧ Aside0 (kq ≤ k) ∧ Aside0 (Kd.R k29 29 wc w.heap.size (fun k_ => some k_ ≠ (v196 : Value).ownBlock ∧ some k_ ≠ (v199 : Value).ownBlock) (.slice Ao8 t192.length co8) t192) ∧ Aside0 (Kd.R k29 29 wc w.heap.size (fun k_ => some k_ ≠ ((.slice Ao8 t192.length co8) : Value).ownBlock ∧ some k_ ≠ (v199 : Value).ownBlock) v196 t195) ∧ Aside0 (Kd.R k29 29 wc w.heap.size (fun k_ => some k_ ≠ ((.slice Ao8 t192.length co8) : Value).ownBlock ∧ some k_ ≠ (v196 : Value).ownBlock) v199 t198) ∧ Aside0 (Below w.heap.size w wc))
    case first =>
      have H := HC6.out
      clear HC6
      replace H := Option.bind_eq_some_iff.mp H
      obtain ⟨t201, A110, H⟩ := H
      replace H : (if t201 = true then ((spec_SpansValid.f k t192).bind fun t202 => (if t202 = true then (laws_FnSpansTwice.j0 k t192 t195 t198 ((t192.length : Int) == 0)) else (laws_FnSpansTwice.j0 k t192 t195 t198 true))) else (laws_FnSpansTwice.j0 k t192 t195 t198 true)) = some r := H
      have A11 := Aside0.mk A110
      clear A110
      by_cases c12 : t201 = true
      · subst c12
        have H1 : ((spec_SpansValid.f k t192).bind fun t202 => (if t202 = true then (laws_FnSpansTwice.j0 k t192 t195 t198 ((t192.length : Int) == 0)) else (laws_FnSpansTwice.j0 k t192 t195 t198 true))) = some r := by rw [if_pos rfl] at H; exact H
        clear H
        have H := H1
        clear H1
        replace H := Option.bind_eq_some_iff.mp H
        obtain ⟨t202, A130, H⟩ := H
        replace H : (if t202 = true then (laws_FnSpansTwice.j0 k t192 t195 t198 ((t192.length : Int) == 0)) else (laws_FnSpansTwice.j0 k t192 t195 t198 true)) = some r := H
        have A13 := Aside0.mk A130
        clear A130
        by_cases c14 : t202 = true
        · subst c14
          have H1 : (laws_FnSpansTwice.j0 k t192 t195 t198 ((t192.length : Int) == 0)) = some r := by rw [if_pos rfl] at H; exact H
          clear H
          have H := H1
          clear H1
          have H' := Aside0.mk H
          clear H
          obtain ⟨Ao15, co15, eo15⟩ := Kd.R_slice HO197.out
          subst eo15
          obtain ⟨Ao16, co16, eo16⟩ := Kd.R_slice HO200.out
          subst eo16
          go_wp2_with (first | ((with_reducible refine gate_callee (f := 13) rfl ?_); refine goesL_ (some 18) rfl rfl Try.func13 (by kernel_rfl) rfl #[.slice Ao15 t195.length co15, .slice Ao16 t198.length co16] rfl (by (try simp only [List.map_toArray, List.map_cons, List.map_nil]); first | done | rfl | (simp only [List.length_drop, List.length_take]; rfl)) ?_; (with_reducible refine (laws_sameSpans.calls k _ _ t195 _ _ t198 true _ ?side1 ?side2 ?side3 ?side4 A11.out).mono ?_); (case side1 => repeat (first | exact (Kd.R_reads' HO197.out).2.2 | (with_reducible refine Kd.C_alloc ?_ _) | (with_reducible refine Kd.C_drewN ?_ _) | (with_reducible refine Kd.C_drew ?_))); (case side2 => exact (Kd.R_reads' HO197.out).2.1); (case side3 => repeat (first | exact (Kd.R_reads' HO200.out).2.2 | (with_reducible refine Kd.C_alloc ?_ _) | (with_reducible refine Kd.C_drewN ?_ _) | (with_reducible refine Kd.C_drew ?_))); (case side4 => exact (Kd.R_reads' HO200.out).2.1); rintro e w' ⟨rfl, ⟨nd, rfl⟩⟩; refine ⟨_, rfl, ?_⟩) | (go_at_call 14; (with_reducible refine (spec_SpansValid.calls k _ _ t192 true _ ?side1 ?side2 A13.out).mono ?_); (case side1 => repeat (first | exact (Kd.R_reads' HO194.out).2.2 | (with_reducible refine Kd.C_alloc ?_ _) | (with_reducible refine Kd.C_drewN ?_ _) | (with_reducible refine Kd.C_drew ?_))); (case side2 => exact (Kd.R_reads' HO194.out).2.1); rintro e w17 ⟨rfl, hb⟩; have n0_ := Aside0.mk (Kd.R_below (by (with_reducible repeat (first | apply Kd.R_alloc | apply Kd.R_drewN | apply Kd.R_drew)); exact HO194.out) hb); have n1_ := Aside0.mk (Kd.R_below (by (with_reducible repeat (first | apply Kd.R_alloc | apply Kd.R_drewN | apply Kd.R_drew)); exact HO197.out) hb); have n2_ := Aside0.mk (Kd.R_below (by (with_reducible repeat (first | apply Kd.R_alloc | apply Kd.R_drewN | apply Kd.R_drew)); exact HO200.out) hb); have n3_ := Aside0.mk (below_step (by repeat (first | (with_reducible first | exact HB.out | apply below_alloc | apply pw_below_drewN | apply below_drew1) | exact HB.out)) hb); clear HO194; clear HO197; clear HO200; clear HB; have HO194 := n0_; have HO197 := n1_; have HO200 := n2_; have HB := n3_; clear n0_ n1_ n2_ n3_; (try clear hb); (try clear hb2); (try clear hk); (try clear hi)))
          go_meet
          case rel => exact ⟨_, (((t192.length : Int) == 0)), (by first | rfl | (simp; done) | (simp [*]; done)), H', ⟨by first | omega | exact Nat.le_refl _⟩, ⟨by (with_reducible repeat (first | apply Kd.R_alloc | apply Kd.R_drewN | apply Kd.R_drew)); exact Kd.R_mono HO194.out (fun _ hk => ⟨hk.1.2, hk.2⟩)⟩, ⟨by (with_reducible repeat (first | apply Kd.R_alloc | apply Kd.R_drewN | apply Kd.R_drew)); exact Kd.R_mono HO197.out (fun _ hk => ⟨hk.1.2, hk.2⟩)⟩, ⟨by (with_reducible repeat (first | apply Kd.R_alloc | apply Kd.R_drewN | apply Kd.R_drew)); exact Kd.R_mono HO200.out (fun _ hk => ⟨hk.1.2, hk.2⟩)⟩, ⟨by repeat (first | (with_reducible first | exact HB.out | apply below_alloc | apply pw_below_drewN | apply below_drew1) | exact HB.out)⟩⟩
        · replace c14 := Bool.eq_false_iff.mpr c14
          subst c14
          have H1 : (laws_FnSpansTwice.j0 k t192 t195 t198 true) = some r := by rw [if_neg (show ¬ (false = true) by decide)] at H; exact H
          clear H
          have H := H1
          clear H1
          have H' := Aside0.mk H
          clear H
          obtain ⟨Ao18, co18, eo18⟩ := Kd.R_slice HO197.out
          subst eo18
          obtain ⟨Ao19, co19, eo19⟩ := Kd.R_slice HO200.out
          subst eo19
          go_wp2_with (first | ((with_reducible refine gate_callee (f := 13) rfl ?_); refine goesL_ (some 18) rfl rfl Try.func13 (by kernel_rfl) rfl #[.slice Ao18 t195.length co18, .slice Ao19 t198.length co19] rfl (by (try simp only [List.map_toArray, List.map_cons, List.map_nil]); first | done | rfl | (simp only [List.length_drop, List.length_take]; rfl)) ?_; (with_reducible refine (laws_sameSpans.calls k _ _ t195 _ _ t198 true _ ?side1 ?side2 ?side3 ?side4 A11.out).mono ?_); (case side1 => repeat (first | exact (Kd.R_reads' HO197.out).2.2 | (with_reducible refine Kd.C_alloc ?_ _) | (with_reducible refine Kd.C_drewN ?_ _) | (with_reducible refine Kd.C_drew ?_))); (case side2 => exact (Kd.R_reads' HO197.out).2.1); (case side3 => repeat (first | exact (Kd.R_reads' HO200.out).2.2 | (with_reducible refine Kd.C_alloc ?_ _) | (with_reducible refine Kd.C_drewN ?_ _) | (with_reducible refine Kd.C_drew ?_))); (case side4 => exact (Kd.R_reads' HO200.out).2.1); rintro e w' ⟨rfl, ⟨nd, rfl⟩⟩; refine ⟨_, rfl, ?_⟩) | (go_at_call 14; (with_reducible refine (spec_SpansValid.calls k _ _ t192 false _ ?side1 ?side2 A13.out).mono ?_); (case side1 => repeat (first | exact (Kd.R_reads' HO194.out).2.2 | (with_reducible refine Kd.C_alloc ?_ _) | (with_reducible refine Kd.C_drewN ?_ _) | (with_reducible refine Kd.C_drew ?_))); (case side2 => exact (Kd.R_reads' HO194.out).2.1); rintro e w20 ⟨rfl, hb⟩; have n0_ := Aside0.mk (Kd.R_below (by (with_reducible repeat (first | apply Kd.R_alloc | apply Kd.R_drewN | apply Kd.R_drew)); exact HO194.out) hb); have n1_ := Aside0.mk (Kd.R_below (by (with_reducible repeat (first | apply Kd.R_alloc | apply Kd.R_drewN | apply Kd.R_drew)); exact HO197.out) hb); have n2_ := Aside0.mk (Kd.R_below (by (with_reducible repeat (first | apply Kd.R_alloc | apply Kd.R_drewN | apply Kd.R_drew)); exact HO200.out) hb); have n3_ := Aside0.mk (below_step (by repeat (first | (with_reducible first | exact HB.out | apply below_alloc | apply pw_below_drewN | apply below_drew1) | exact HB.out)) hb); clear HO194; clear HO197; clear HO200; clear HB; have HO194 := n0_; have HO197 := n1_; have HO200 := n2_; have HB := n3_; clear n0_ n1_ n2_ n3_; (try clear hb); (try clear hb2); (try clear hk); (try clear hi)))
          go_meet
          case rel => exact ⟨_, (true), (by first | rfl | (simp; done) | (simp [*]; done)), H', ⟨by first | omega | exact Nat.le_refl _⟩, ⟨by (with_reducible repeat (first | apply Kd.R_alloc | apply Kd.R_drewN | apply Kd.R_drew)); exact Kd.R_mono HO194.out (fun _ hk => ⟨hk.1.2, hk.2⟩)⟩, ⟨by (with_reducible repeat (first | apply Kd.R_alloc | apply Kd.R_drewN | apply Kd.R_drew)); exact Kd.R_mono HO197.out (fun _ hk => ⟨hk.1.2, hk.2⟩)⟩, ⟨by (with_reducible repeat (first | apply Kd.R_alloc | apply Kd.R_drewN | apply Kd.R_drew)); exact Kd.R_mono HO200.out (fun _ hk => ⟨hk.1.2, hk.2⟩)⟩, ⟨by repeat (first | (with_reducible first | exact HB.out | apply below_alloc | apply pw_below_drewN | apply below_drew1) | exact HB.out)⟩⟩
      · replace c12 := Bool.eq_false_iff.mpr c12
        subst c12
        have H1 : (laws_FnSpansTwice.j0 k t192 t195 t198 true) = some r := by rw [if_neg (show ¬ (false = true) by decide)] at H; exact H
        clear H
        have H := H1
        clear H1
        have H' := Aside0.mk H
        clear H
        obtain ⟨Ao21, co21, eo21⟩ := Kd.R_slice HO197.out
        subst eo21
        obtain ⟨Ao22, co22, eo22⟩ := Kd.R_slice HO200.out
        subst eo22
        go_wp2_with (first | ((with_reducible refine gate_callee (f := 13) rfl ?_); refine goesL_ (some 18) rfl rfl Try.func13 (by kernel_rfl) rfl #[.slice Ao21 t195.length co21, .slice Ao22 t198.length co22] rfl (by (try simp only [List.map_toArray, List.map_cons, List.map_nil]); first | done | rfl | (simp only [List.length_drop, List.length_take]; rfl)) ?_; (with_reducible refine (laws_sameSpans.calls k _ _ t195 _ _ t198 false _ ?side1 ?side2 ?side3 ?side4 A11.out).mono ?_); (case side1 => repeat (first | exact (Kd.R_reads' HO197.out).2.2 | (with_reducible refine Kd.C_alloc ?_ _) | (with_reducible refine Kd.C_drewN ?_ _) | (with_reducible refine Kd.C_drew ?_))); (case side2 => exact (Kd.R_reads' HO197.out).2.1); (case side3 => repeat (first | exact (Kd.R_reads' HO200.out).2.2 | (with_reducible refine Kd.C_alloc ?_ _) | (with_reducible refine Kd.C_drewN ?_ _) | (with_reducible refine Kd.C_drew ?_))); (case side4 => exact (Kd.R_reads' HO200.out).2.1); rintro e w' ⟨rfl, ⟨nd, rfl⟩⟩; refine ⟨_, rfl, ?_⟩))
        go_meet
        case rel => exact ⟨_, (true), (by first | rfl | (simp; done) | (simp [*]; done)), H', ⟨by first | omega | exact Nat.le_refl _⟩, ⟨by (with_reducible repeat (first | apply Kd.R_alloc | apply Kd.R_drewN | apply Kd.R_drew)); exact Kd.R_mono HO194.out (fun _ hk => ⟨hk.1.2, hk.2⟩)⟩, ⟨by (with_reducible repeat (first | apply Kd.R_alloc | apply Kd.R_drewN | apply Kd.R_drew)); exact Kd.R_mono HO197.out (fun _ hk => ⟨hk.1.2, hk.2⟩)⟩, ⟨by (with_reducible repeat (first | apply Kd.R_alloc | apply Kd.R_drewN | apply Kd.R_drew)); exact Kd.R_mono HO200.out (fun _ hk => ⟨hk.1.2, hk.2⟩)⟩, ⟨by repeat (first | (with_reducible first | exact HB.out | apply below_alloc | apply pw_below_drewN | apply below_drew1) | exact HB.out)⟩⟩
    case rest =>
      clear HC6
      try clear c1
      try clear c2
      try clear c2b0
      try clear c2b1
      try clear p2
      try clear c3
      try clear c10
      try clear c11
      try clear c12
      try clear c13
      try clear c14
      obtain ⟨kq, x29_5, rfl, HA, HJ5, HO_3, HO_4, HO_5, HB⟩ := hcut
      cases kq with
      | zero => exact absurd HA.out (by simp [laws_FnSpansTwice.j0])
      | succ kj5 =>
        have H := HA.out
        clear HA
        simp only [laws_FnSpansTwice.j0] at H
        by_cases c23 : x29_5 = true
        · subst c23
          have H1 : ((laws_sameSpans.f kj5 t195 t198).bind fun t203 => (some t203)) = some r := by rw [if_pos rfl] at H; exact H
          clear H
          have H := H1
          clear H1
          replace H := Option.bind_eq_some_iff.mp H
          obtain ⟨t203, A240, H⟩ := H
          replace H : (some t203) = some r := H
          have A24 := Aside0.mk A240
          clear A240
          obtain rfl := Option.some.inj H
          obtain ⟨Ao25, co25, eo25⟩ := Kd.R_slice HO_4.out
          subst eo25
          obtain ⟨Ao26, co26, eo26⟩ := Kd.R_slice HO_5.out
          subst eo26
          go_wp2_with (first | ((with_reducible refine gate_callee (f := 13) rfl ?_); refine goesL_ (some 32) rfl rfl Try.func13 (by kernel_rfl) rfl #[.slice Ao25 t195.length co25, .slice Ao26 t198.length co26] rfl (by (try simp only [List.map_toArray, List.map_cons, List.map_nil]); first | done | rfl | (simp only [List.length_drop, List.length_take]; rfl)) ?_; (with_reducible refine (laws_sameSpans.calls kj5 _ _ t195 _ _ t198 t203 _ ?side1 ?side2 ?side3 ?side4 A24.out).mono ?_); (case side1 => repeat (first | exact (Kd.R_reads' HO_4.out).2.2 | (with_reducible refine Kd.C_alloc ?_ _) | (with_reducible refine Kd.C_drewN ?_ _) | (with_reducible refine Kd.C_drew ?_))); (case side2 => exact (Kd.R_reads' HO_4.out).2.1); (case side3 => repeat (first | exact (Kd.R_reads' HO_5.out).2.2 | (with_reducible refine Kd.C_alloc ?_ _) | (with_reducible refine Kd.C_drewN ?_ _) | (with_reducible refine Kd.C_drew ?_))); (case side4 => exact (Kd.R_reads' HO_5.out).2.1); rintro e w' ⟨rfl, ⟨nd, rfl⟩⟩; refine ⟨_, rfl, ?_⟩))
          go_ret
          exact ⟨by first | rfl | (simp [errW_none, errW_some] <;> rfl) | (simp [*, errW_none, errW_some] <;> rfl), by repeat (first | (with_reducible first | exact HB.out | apply below_alloc | apply pw_below_drewN | apply below_drew1) | exact HB.out)⟩
        · replace c23 := Bool.eq_false_iff.mpr c23
          subst c23
          have H1 : ((rotS t192).bind fun t204 => ((impl_SpansJoin.f kj5 t195).bind fun t207 => ((laws_sameSpans.f kj5 t207 t195).bind fun t210 => (if t210 = true then ((impl_SpansJoin.f kj5 t204).bind fun t211 => ((laws_sameSpans.f kj5 t211 t195).bind fun t214 => (some t214))) else (some false))))) = some r := by rw [if_neg (show ¬ (false = true) by decide)] at H; exact H
          clear H
          have H := H1
          clear H1
          replace H := Option.bind_eq_some_iff.mp H
          obtain ⟨t204, A270, H⟩ := H
          replace H : ((impl_SpansJoin.f kj5 t195).bind fun t207 => ((laws_sameSpans.f kj5 t207 t195).bind fun t210 => (if t210 = true then ((impl_SpansJoin.f kj5 t204).bind fun t211 => ((laws_sameSpans.f kj5 t211 t195).bind fun t214 => (some t214))) else (some false)))) = some r := H
          have A27 := Aside0.mk A270
          clear A270
          replace H := Option.bind_eq_some_iff.mp H
          obtain ⟨t207, A280, H⟩ := H
          replace H : ((laws_sameSpans.f kj5 t207 t195).bind fun t210 => (if t210 = true then ((impl_SpansJoin.f kj5 t204).bind fun t211 => ((laws_sameSpans.f kj5 t211 t195).bind fun t214 => (some t214))) else (some false))) = some r := H
          have A28 := Aside0.mk A280
          clear A280
          replace H := Option.bind_eq_some_iff.mp H
          obtain ⟨t210, A290, H⟩ := H
          replace H : (if t210 = true then ((impl_SpansJoin.f kj5 t204).bind fun t211 => ((laws_sameSpans.f kj5 t211 t195).bind fun t214 => (some t214))) else (some false)) = some r := H
          have A29 := Aside0.mk A290
          clear A290
          by_cases c30 : t210 = true
          · subst c30
            have H1 : ((impl_SpansJoin.f kj5 t204).bind fun t211 => ((laws_sameSpans.f kj5 t211 t195).bind fun t214 => (some t214))) = some r := by rw [if_pos rfl] at H; exact H
            clear H
            have H := H1
            clear H1
            replace H := Option.bind_eq_some_iff.mp H
            obtain ⟨t211, A310, H⟩ := H
            replace H : ((laws_sameSpans.f kj5 t211 t195).bind fun t214 => (some t214)) = some r := H
            have A31 := Aside0.mk A310
            clear A310
            replace H := Option.bind_eq_some_iff.mp H
            obtain ⟨t214, A320, H⟩ := H
            replace H : (some t214) = some r := H
            have A32 := Aside0.mk A320
            clear A320
            obtain rfl := Option.some.inj H
            go_wp2_with fail
            have hrot : (0 < t192.length ∧ t192.length ≤ 1000000) ∧ t204 = t192.drop 1 ++ t192.take 1 := by
              have h_ := A27.out
              unfold rotS at h_
              split at h_
              · exact ⟨by assumption, (Option.some.inj h_).symm⟩
              · cases h_
            obtain ⟨⟨hpos, hbig⟩, ht204⟩ := hrot
            have hCx : Kd.C k29 wc Ao8 t192.length t192 := (Kd.R_reads' HO_3.out).2.2
            have hroom : t192.length ≤ co8 := (Kd.R_reads' HO_3.out).2.1
            have q0 : ((0 : Nat) : Int) < (t192.length : Int) := by omega
            obtain ⟨ad0, e0, hx0, hx1⟩ := at_T29 hCx ((0 : Nat) : Int) (by omega) q0
            obtain ⟨s0_0, s0_1, hs0, hs1, htk⟩ : ∃ a b : Int, (rd_T29 t192 ((0 : Nat) : Int)).f0 = a ∧ (rd_T29 t192 ((0 : Nat) : Int)).f1 = b ∧ t192.take 1 = [(⟨a, b⟩ : S29)] := by
              refine ⟨_, _, rfl, rfl, ?_⟩
              cases t192 with
              | nil => simp at hpos
              | cons s t => rfl
            rw [hs0] at hx0
            rw [hs1] at hx1
            cases e0
            replace hx0 : wc.cell? ad0 = some (.int .i64 s0_0) := by simpa [Addr.add_zero'] using hx0
            replace hx1 : wc.cell? ⟨ad0.block, ad0.off + 1, none⟩ = some (.int .i64 s0_1) := by simpa [Addr.add_zero'] using hx1
            have HX0 := Aside0.mk hx0
            have HX1 := Aside0.mk hx1
            have HSZ := Aside0.mk (World.block_lt_of_cell? wc _ hx0)
            have HSZ1 := Aside0.mk (World.block_lt_of_cell? wc _ hx1)
            obtain ⟨i034, hi034, _, hsz34, _⟩ := info_parts info29
            have hcut := cut_from (P := Try.prog) 23 29 .i64 Try.underlying23 hi034 2 hsz34 (some ad0) t192.length co8 1 (by omega) (by omega)
            have hrd := Kd.C_drop (m := 1) (c := co8) hCx (by omega) hroom
            obtain ⟨y197, hy197⟩ : ∃ y_ : List S29, y_ = t192.drop 1 := ⟨_, rfl⟩
            obtain ⟨A34, hA34⟩ : ∃ A1, A1 = (if co8 = (1 : Int).toNat then some ad0 else (some ad0 : Option Addr).map (·.add ((1 : Int).toNat * 2))) := ⟨_, rfl⟩
            obtain ⟨c34, hc34⟩ : ∃ c1, c1 = co8 - (1 : Int).toNat := ⟨_, rfl⟩
            have hyl : y197.length = t192.length - (1 : Int).toNat := by rw [hy197, List.length_drop]; rfl
            rw [← hyl, ← hA34, ← hc34] at hcut
            rw [← hy197] at hrd
            replace hrd : Kd.C k29 wc A34 y197.length y197 := by rw [hA34]; exact hrd
            have HRD := Aside0.mk hrd
            have HTK := Aside0.mk htk
            have HPO := Aside0.mk hpos
            have HLN := Aside0.mk (show y197.length ≤ 1000000 by rw [hyl]; omega)
            have HTR := Aside0.mk (show t204 = y197 ++ [(⟨s0_0, s0_1⟩ : S29)] by rw [ht204, hy197, htk])
            clear hrd hyl hbig hA34 hc34 hi034 hsz34 htk ht204 hy197 hs0 hs1
            have hq0 : ((0 : Int) < (t192.length : Int)) = True := eq_true q0
            have hbw : Below wc.heap.size wc wc := Below.refl _ _
            refine Code.wp_mono (Q := fun e a' w' => e = .normal ∧ ∃ (V u33 u34 u35 u36 u37 u38 u39 u40 : Value), a' = ⟨#[.slice A0 l0.length c0, undef, .bool false, .slice (some ad0) t192.length co8, v196, v199, V, u7, u8, u9, u10, u11, u12, u13, u14, u15, u16, u17, u18, u19, u20, u21, u22, u23, u24, u25, u26, u27, u28, .bool false, u30, u31, u32, u33, u34, u35, u36, u37, u38, u39, u40, V, u42, u43, u44, u45, u46, u47, u48, u49, u50, u51], []⟩ ∧ Kd.R k29 29 w' wc.heap.size (fun _ => True) V t204 ∧ Below wc.heap.size wc w') (fun e a' w' hR => ?_) ?_
            rotate_left
            · clear HO_3 HO_4 HO_5 HB
              refine start_ (n := 10) (S := fun w' => w'.cell? ad0 = some (.int .i64 s0_0) ∧ w'.cell? ⟨ad0.block, ad0.off + 1, none⟩ = some (.int .i64 s0_1)) (ds := []) #[false, false, false, false, false, false, false, false, false, false] (by kernel_rfl) rfl rfl ⟨hx0, hx1⟩ (fun hHeld => ?_); refine with_tabW laws_FnSpansTwice.tab8 laws_FnSpansTwice.bits8 (fun HT_ HW_ => ?_)
              have HBC : Aside0 (Below wc.heap.size wc wc.drew) := ⟨below_drew1 hbw⟩
              have HRC := Aside0.mk (Kd.C_drew HRD.out)
              generalize wc.drew = w1 at HBC HRC hHeld ⊢
              refine pure_ (i := 1) (N := some 34) (v := ?_) (a' := ?_) #[false, true, false, false, false, false, false, false, false, false] rfl rfl (any_of HT_.out (by kernel_rfl)) (fun _ _ _ h => by cases h.1) (Or.inl ⟨by rfl, ?_⟩) ?_ ?_
              rotate_left
              · intro w'
                go_simp
                with_reducible rfl
              rotate_left
              · simp only [Act.put, List.setIfInBounds_toArray, List.set_cons_zero, List.set_cons_succ, i64_w, i32_w]
                rfl
              refine pure_ (i := 2) (N := some 35) (v := ?_) (a' := ?_) #[false, true, true, false, false, false, false, false, false, false] rfl rfl (any_of HT_.out (by kernel_rfl)) (fun _ _ _ h => by cases h.1) (Or.inl ⟨by rfl, ?_⟩) ?_ ?_
              rotate_left
              · intro w'
                go_simp
                with_reducible rfl
              rotate_left
              · simp only [Act.put, List.setIfInBounds_toArray, List.set_cons_zero, List.set_cons_succ, i64_w, i32_w]
                rfl
              refine pure_ (i := 4) (N := some 37) (v := ?_) (a' := ?_) #[false, true, true, false, true, false, false, false, false, false] rfl rfl (any_of HT_.out (by kernel_rfl)) (fun _ _ _ h => by cases h.1) (Or.inl ⟨by rfl, ?_⟩) ?_ ?_
              rotate_left
              · intro w'
                go_simp
                with_reducible rfl
              rotate_left
              · simp only [Act.put, List.setIfInBounds_toArray, List.set_cons_zero, List.set_cons_succ, i64_w, i32_w]
                rfl
              refine pure_ (i := 5) (N := some 38) (v := ?_) (a' := ?_) #[false, true, true, false, true, true, false, false, false, false] rfl rfl (any_of HT_.out (by kernel_rfl)) (fun _ _ _ h => by cases h.1) (Or.inl ⟨by rfl, ?_⟩) ?_ ?_
              rotate_left
              · intro w'
                go_simp
                with_reducible rfl
              rotate_left
              · simp only [Act.put, List.setIfInBounds_toArray, List.set_cons_zero, List.set_cons_succ, i64_w, i32_w]
                rfl
              refine take_ (i := 6) (N := some 39) (v := ?_) (a' := ?_) #[false, true, true, false, true, true, true, false, false, false] rfl rfl (take_ofW HT_.out HW_.out (by kernel_rfl)) (fun _ _ _ h => by cases h.1) (Or.inl ⟨by rfl, ?_⟩) hHeld ?_ ?_
              rotate_left
              · rintro w' ⟨s0, s1⟩
                go_simp
                with_reducible rfl
              rotate_left
              · simp only [Act.put, List.setIfInBounds_toArray, List.set_cons_zero, List.set_cons_succ, i64_w, i32_w]
                rfl
              refine two_ (i := 0) (j := 7) (Ni := some 33) (Nj := some 40) #[true, true, true, false, true, true, true, false, false, false] #[false, true, true, false, true, true, true, true, false, false] rfl rfl rfl rfl (two_of HT_.out (by kernel_rfl)) (by decide) (by decide) (fun K hK => ?_) (fun K hK => ?_)
              · skip
                refine Kd.R_lit_step k29 _ 29 ?hg (N := 33) ?hd (xs := ([] : List S29)) (inner := []) (ok := fun _ => True) (okp := fun _ => True) ?hr ?hp (fun _ hk => hk) trivial (Below.refl _ _) (Nat.le_refl _) (by simp) ?_; (case hd => rfl); (case hg => rfl); (case hr => first | (go_simp; done) | (go_simp; rfl)); (case hp => exact (Reps.none _ _))
                intro v33 wE1 ho hb hg_ hnew_
                clear hg_ hnew_
                have n0_ := Aside0.mk (Kd.C_below HRC.out hb)
                have HVE := Aside0.mk (Kd.R_lower ho HBC.out.size)
                have n2_ := Aside0.mk (below_step HBC.out hb)
                clear HRC HBC ho hb
                have HRC := n0_
                have HBC := n2_
                clear n0_ n2_
                refine hK.out _ _ ⟨(HBC.out.cell HSZ.out).trans HX0.out, (HBC.out.cell HSZ1.out).trans HX1.out⟩ (fun hHeld => ?_)
                clear hK K
                refine norm_ (a' := ?_) ?_ ?_
                rotate_left
                · show Act.put _ (some 33) _ = _
                  simp only [Act.put, List.setIfInBounds_toArray, List.set_cons_zero, List.set_cons_succ, i64_w, i32_w]
                  rfl
                refine two_ (i := 3) (j := 7) (Ni := some 36) (Nj := some 40) #[true, true, true, true, true, true, true, false, false, false] #[true, true, true, false, true, true, true, true, false, false] rfl rfl rfl rfl (two_of HT_.out (by kernel_rfl)) (by decide) (by decide) (fun K hK => ?_) (fun K hK => ?_)
                · skip
                  refine Kd.R_append_rows_step k29 (w0 := wc) wc.heap.size (by rfl) (.tmp 33) (.tmp 35) 23 29 (.agg #[(.int .i64 0), (.int .i64 0)]) 16 rfl Try.underlying23 info29 rfl (by decide) (by omega) v33 [] y197 _ _ _ (fun _ => True) (fun _ => False) rfl rfl ?aO ?aR (fun _ _ h => h) (fun _ h => h.elim) ?aF ?aB ?aS ?aL ?_
                  (case aR => exact HRC.out)
                  (case aB => exact HBC.out)
                  (case aF => exact (fun _ _ => trivial))
                  (case aO => exact Kd.R_mono HVE.out (fun _ _ => trivial))
                  (case aS => exact HBC.out.size)
                  (case aL => have := HLN.out; simp only [List.length_nil]; omega)
                  intro v36 wA2 ho hb hg hat
                  have HVA := Aside0.mk (show Kd.R k29 29 _ wc.heap.size (fun _ => True) v36 y197 from ho)
                  have n2_ := Aside0.mk hb
                  clear HBC HRC HVE ho hb hg hat
                  have HBC := n2_
                  clear n2_
                  refine hK.out _ _ ⟨(HBC.out.cell HSZ.out).trans HX0.out, (HBC.out.cell HSZ1.out).trans HX1.out⟩ (fun hHeld => ?_)
                  clear hK K
                  refine norm_ (a' := ?_) ?_ ?_
                  rotate_left
                  · show Act.put _ (some 36) _ = _
                    simp only [Act.put, List.setIfInBounds_toArray, List.set_cons_zero, List.set_cons_succ, i64_w, i32_w]
                    rfl
                  refine one_ (i := 7) (N := some 40) #[true, true, true, true, true, true, true, true, false, false] rfl rfl (one_of HT_.out (by kernel_rfl)) (by decide) (fun K hK => ?_)
                  refine Kd.R_lit_step k29 _ 29 ?hg (N := 40) ?hd (xs := [(⟨s0_0, s0_1⟩ : S29)]) (inner := [.int .i64 s0_0, .int .i64 s0_1]) (ok := fun _ => True) (okp := fun _ => True) ?hr ?hp (fun _ hk => hk) trivial (Below.refl _ _) (Nat.le_refl _) (by simp) ?_; (case hd => rfl); (case hg => rfl); (case hr => first | (go_simp; done) | (go_simp; rfl)); (case hp => exact Reps.c2 (k29_mkM _ _ _ (⟨s0_0, s0_1⟩ : S29)) (Reps.none _ _))
                  intro v40 wB3 ho hb hg_ hnew_
                  clear hg_ hnew_
                  have HVB := Aside0.mk (Kd.R_lower ho HBC.out.size)
                  have n3_ := Aside0.mk (Kd.R_below HVA.out hb)
                  have n2_ := Aside0.mk (below_step HBC.out hb)
                  clear HBC ho hb HVA
                  have HVA := n3_
                  have HBC := n2_
                  clear n3_ n2_
                  refine hK.out _ _ ⟨(HBC.out.cell HSZ.out).trans HX0.out, (HBC.out.cell HSZ1.out).trans HX1.out⟩ (fun hHeld => ?_)
                  clear hK K
                  refine norm_ (a' := ?_) ?_ ?_
                  rotate_left
                  · show Act.put _ (some 40) _ = _
                    simp only [Act.put, List.setIfInBounds_toArray, List.set_cons_zero, List.set_cons_succ, i64_w, i32_w]
                    rfl
                  obtain ⟨AoB, coB, eoB⟩ := Kd.R_slice HVB.out
                  subst eoB
                  refine one_ (i := 8) (N := some 41) #[true, true, true, true, true, true, true, true, true, false] rfl rfl (one_of HT_.out (by kernel_rfl)) (by decide) (fun K hK => ?_)
                  refine Kd.R_append_rows_step k29 (w0 := wc) wc.heap.size (by rfl) (.tmp 36) (.tmp 40) 23 29 (.agg #[(.int .i64 0), (.int .i64 0)]) 16 rfl Try.underlying23 info29 rfl (by decide) (by omega) v36 y197 [(⟨s0_0, s0_1⟩ : S29)] _ _ _ (fun _ => True) (fun _ => False) rfl rfl ?aO ?aR (fun _ _ h => h) (fun _ h => h.elim) ?aF ?aB ?aS ?aL ?_
                  (case aR => exact (Kd.R_reads' HVB.out).2.2)
                  (case aB => exact HBC.out)
                  (case aF => exact (fun _ _ => trivial))
                  (case aO => exact HVA.out)
                  (case aS => exact HBC.out.size)
                  (case aL => have := HLN.out; simp only [List.length_cons, List.length_nil]; omega)
                  intro v41 wX4 ho hb hg hat
                  have HVX := Aside0.mk ho
                  have n2_ := Aside0.mk hb
                  clear HBC HVA HVB ho hb hg hat
                  have HBC := n2_
                  clear n2_
                  refine hK.out _ _ ⟨(HBC.out.cell HSZ.out).trans HX0.out, (HBC.out.cell HSZ1.out).trans HX1.out⟩ (fun hHeld => ?_)
                  clear hK K
                  refine norm_ (a' := ?_) ?_ ?_
                  rotate_left
                  · show Act.put _ (some 41) _ = _
                    simp only [Act.put, List.setIfInBounds_toArray, List.set_cons_zero, List.set_cons_succ, i64_w, i32_w]
                    rfl
                  refine pure_ (i := 9) (N := some 6) (v := ?_) (a' := ?_) #[true, true, true, true, true, true, true, true, true, true] rfl rfl (any_of HT_.out (by kernel_rfl)) (fun _ _ _ h => by cases h.1) (Or.inl ⟨by rfl, ?_⟩) ?_ ?_
                  rotate_left
                  · intro w'
                    go_simp
                    with_reducible rfl
                  rotate_left
                  · simp only [Act.put, List.setIfInBounds_toArray, List.set_cons_zero, List.set_cons_succ, i64_w, i32_w]
                    rfl
                  refine done_ (done_of HT_.out (by kernel_rfl)) ?_
                  exact ⟨rfl, _, _, _, _, _, _, _, _, _, rfl, by rw [HTR.out]; exact HVX.out, HBC.out⟩
                · skip
                  refine Kd.R_lit_step k29 _ 29 ?hg (N := 40) ?hd (xs := [(⟨s0_0, s0_1⟩ : S29)]) (inner := [.int .i64 s0_0, .int .i64 s0_1]) (ok := fun _ => True) (okp := fun _ => True) ?hr ?hp (fun _ hk => hk) trivial (Below.refl _ _) (Nat.le_refl _) (by simp) ?_; (case hd => rfl); (case hg => rfl); (case hr => first | (go_simp; done) | (go_simp; rfl)); (case hp => exact Reps.c2 (k29_mkM _ _ _ (⟨s0_0, s0_1⟩ : S29)) (Reps.none _ _))
                  intro v40 wB5 ho hb hg_ hnew_
                  clear hg_ hnew_
                  have n0_ := Aside0.mk (Kd.C_below HRC.out hb)
                  have n1_ := Aside0.mk (Kd.R_below HVE.out hb)
                  have HVB := Aside0.mk (Kd.R_lower (Kd.R_new' ho (Kd.R_lt HVE.out)) HBC.out.size)
                  have n2_ := Aside0.mk (below_step HBC.out hb)
                  clear HBC ho hb HRC HVE
                  have HRC := n0_
                  have HVE := n1_
                  have HBC := n2_
                  clear n0_ n1_ n2_
                  refine hK.out _ _ ⟨(HBC.out.cell HSZ.out).trans HX0.out, (HBC.out.cell HSZ1.out).trans HX1.out⟩ (fun hHeld => ?_)
                  clear hK K
                  refine norm_ (a' := ?_) ?_ ?_
                  rotate_left
                  · show Act.put _ (some 40) _ = _
                    simp only [Act.put, List.setIfInBounds_toArray, List.set_cons_zero, List.set_cons_succ, i64_w, i32_w]
                    rfl
                  refine one_ (i := 3) (N := some 36) #[true, true, true, true, true, true, true, true, false, false] rfl rfl (one_of HT_.out (by kernel_rfl)) (by decide) (fun K hK => ?_)
                  refine Kd.R_append_rows_step k29 (w0 := wc) wc.heap.size (by rfl) (.tmp 33) (.tmp 35) 23 29 (.agg #[(.int .i64 0), (.int .i64 0)]) 16 rfl Try.underlying23 info29 rfl (by decide) (by omega) v33 [] y197 _ _ _ (fun _ => True) (fun _ => False) rfl rfl ?aO ?aR (fun _ _ h => h) (fun _ h => h.elim) ?aF ?aB ?aS ?aL ?_
                  (case aR => exact HRC.out)
                  (case aB => exact HBC.out)
                  (case aF => exact (fun _ _ => trivial))
                  (case aO => exact Kd.R_mono HVE.out (fun _ _ => trivial))
                  (case aS => exact HBC.out.size)
                  (case aL => have := HLN.out; simp only [List.length_nil]; omega)
                  intro v36 wA6 ho hb hg hat
                  have n1_ := Aside0.mk (Kd.R_grown HVB.out hg (fun _ hk => hk.2))
                  have HVA := Aside0.mk (show Kd.R k29 29 _ wc.heap.size (fun _ => True) v36 y197 from ho)
                  have n2_ := Aside0.mk hb
                  clear HBC HRC HVE ho hb hg hat HVB
                  have HBC := n2_
                  have HVB := n1_
                  clear n2_ n1_
                  refine hK.out _ _ ⟨(HBC.out.cell HSZ.out).trans HX0.out, (HBC.out.cell HSZ1.out).trans HX1.out⟩ (fun hHeld => ?_)
                  clear hK K
                  refine norm_ (a' := ?_) ?_ ?_
                  rotate_left
                  · show Act.put _ (some 36) _ = _
                    simp only [Act.put, List.setIfInBounds_toArray, List.set_cons_zero, List.set_cons_succ, i64_w, i32_w]
                    rfl
                  obtain ⟨AoB, coB, eoB⟩ := Kd.R_slice HVB.out
                  subst eoB
                  refine one_ (i := 8) (N := some 41) #[true, true, true, true, true, true, true, true, true, false] rfl rfl (one_of HT_.out (by kernel_rfl)) (by decide) (fun K hK => ?_)
                  refine Kd.R_append_rows_step k29 (w0 := wc) wc.heap.size (by rfl) (.tmp 36) (.tmp 40) 23 29 (.agg #[(.int .i64 0), (.int .i64 0)]) 16 rfl Try.underlying23 info29 rfl (by decide) (by omega) v36 y197 [(⟨s0_0, s0_1⟩ : S29)] _ _ _ (fun _ => True) (fun _ => False) rfl rfl ?aO ?aR (fun _ _ h => h) (fun _ h => h.elim) ?aF ?aB ?aS ?aL ?_
                  (case aR => exact (Kd.R_reads' HVB.out).2.2)
                  (case aB => exact HBC.out)
                  (case aF => exact (fun _ _ => trivial))
                  (case aO => exact HVA.out)
                  (case aS => exact HBC.out.size)
                  (case aL => have := HLN.out; simp only [List.length_cons, List.length_nil]; omega)
                  intro v41 wX7 ho hb hg hat
                  have HVX := Aside0.mk ho
                  have n2_ := Aside0.mk hb
                  clear HBC HVA HVB ho hb hg hat
                  have HBC := n2_
                  clear n2_
                  refine hK.out _ _ ⟨(HBC.out.cell HSZ.out).trans HX0.out, (HBC.out.cell HSZ1.out).trans HX1.out⟩ (fun hHeld => ?_)
                  clear hK K
                  refine norm_ (a' := ?_) ?_ ?_
                  rotate_left
                  · show Act.put _ (some 41) _ = _
                    simp only [Act.put, List.setIfInBounds_toArray, List.set_cons_zero, List.set_cons_succ, i64_w, i32_w]
                    rfl
                  refine pure_ (i := 9) (N := some 6) (v := ?_) (a' := ?_) #[true, true, true, true, true, true, true, true, true, true] rfl rfl (any_of HT_.out (by kernel_rfl)) (fun _ _ _ h => by cases h.1) (Or.inl ⟨by rfl, ?_⟩) ?_ ?_
                  rotate_left
                  · intro w'
                    go_simp
                    with_reducible rfl
                  rotate_left
                  · simp only [Act.put, List.setIfInBounds_toArray, List.set_cons_zero, List.set_cons_succ, i64_w, i32_w]
                    rfl
                  refine done_ (done_of HT_.out (by kernel_rfl)) ?_
                  exact ⟨rfl, _, _, _, _, _, _, _, _, _, rfl, by rw [HTR.out]; exact HVX.out, HBC.out⟩
              · skip
                refine Kd.R_lit_step k29 _ 29 ?hg (N := 40) ?hd (xs := [(⟨s0_0, s0_1⟩ : S29)]) (inner := [.int .i64 s0_0, .int .i64 s0_1]) (ok := fun _ => True) (okp := fun _ => True) ?hr ?hp (fun _ hk => hk) trivial (Below.refl _ _) (Nat.le_refl _) (by simp) ?_; (case hd => rfl); (case hg => rfl); (case hr => first | (go_simp; done) | (go_simp; rfl)); (case hp => exact Reps.c2 (k29_mkM _ _ _ (⟨s0_0, s0_1⟩ : S29)) (Reps.none _ _))
                intro v40 wB8 ho hb hg_ hnew_
                clear hg_ hnew_
                have n0_ := Aside0.mk (Kd.C_below HRC.out hb)
                have HVB := Aside0.mk (Kd.R_lower ho HBC.out.size)
                have n2_ := Aside0.mk (below_step HBC.out hb)
                clear HBC ho hb HRC
                have HRC := n0_
                have HBC := n2_
                clear n0_ n2_
                refine hK.out _ _ ⟨(HBC.out.cell HSZ.out).trans HX0.out, (HBC.out.cell HSZ1.out).trans HX1.out⟩ (fun hHeld => ?_)
                clear hK K
                refine norm_ (a' := ?_) ?_ ?_
                rotate_left
                · show Act.put _ (some 40) _ = _
                  simp only [Act.put, List.setIfInBounds_toArray, List.set_cons_zero, List.set_cons_succ, i64_w, i32_w]
                  rfl
                refine one_ (i := 0) (N := some 33) #[true, true, true, false, true, true, true, true, false, false] rfl rfl (one_of HT_.out (by kernel_rfl)) (by decide) (fun K hK => ?_)
                refine Kd.R_lit_step k29 _ 29 ?hg (N := 33) ?hd (xs := ([] : List S29)) (inner := []) (ok := fun _ => True) (okp := fun _ => True) ?hr ?hp (fun _ hk => hk) trivial (Below.refl _ _) (Nat.le_refl _) (by simp) ?_; (case hd => rfl); (case hg => rfl); (case hr => first | (go_simp; done) | (go_simp; rfl)); (case hp => exact (Reps.none _ _))
                intro v33 wE9 ho hb hg_ hnew_
                clear hg_ hnew_
                have n0_ := Aside0.mk (Kd.C_below HRC.out hb)
                have n1_ := Aside0.mk (Kd.R_elder' HVB.out (Kd.R_base ho) hb)
                have HVE := Aside0.mk (Kd.R_lower ho HBC.out.size)
                have n2_ := Aside0.mk (below_step HBC.out hb)
                clear HRC HBC ho hb HVB
                have HRC := n0_
                have HBC := n2_
                have HVB := n1_
                clear n0_ n2_ n1_
                refine hK.out _ _ ⟨(HBC.out.cell HSZ.out).trans HX0.out, (HBC.out.cell HSZ1.out).trans HX1.out⟩ (fun hHeld => ?_)
                clear hK K
                refine norm_ (a' := ?_) ?_ ?_
                rotate_left
                · show Act.put _ (some 33) _ = _
                  simp only [Act.put, List.setIfInBounds_toArray, List.set_cons_zero, List.set_cons_succ, i64_w, i32_w]
                  rfl
                refine one_ (i := 3) (N := some 36) #[true, true, true, true, true, true, true, true, false, false] rfl rfl (one_of HT_.out (by kernel_rfl)) (by decide) (fun K hK => ?_)
                refine Kd.R_append_rows_step k29 (w0 := wc) wc.heap.size (by rfl) (.tmp 33) (.tmp 35) 23 29 (.agg #[(.int .i64 0), (.int .i64 0)]) 16 rfl Try.underlying23 info29 rfl (by decide) (by omega) v33 [] y197 _ _ _ (fun _ => True) (fun _ => False) rfl rfl ?aO ?aR (fun _ _ h => h) (fun _ h => h.elim) ?aF ?aB ?aS ?aL ?_
                (case aR => exact HRC.out)
                (case aB => exact HBC.out)
                (case aF => exact (fun _ _ => trivial))
                (case aO => exact Kd.R_mono HVE.out (fun _ _ => trivial))
                (case aS => exact HBC.out.size)
                (case aL => have := HLN.out; simp only [List.length_nil]; omega)
                intro v36 wA10 ho hb hg hat
                have n1_ := Aside0.mk (Kd.R_grown HVB.out hg (fun _ hk => hk.2))
                have HVA := Aside0.mk (show Kd.R k29 29 _ wc.heap.size (fun _ => True) v36 y197 from ho)
                have n2_ := Aside0.mk hb
                clear HBC HRC HVE ho hb hg hat HVB
                have HBC := n2_
                have HVB := n1_
                clear n2_ n1_
                refine hK.out _ _ ⟨(HBC.out.cell HSZ.out).trans HX0.out, (HBC.out.cell HSZ1.out).trans HX1.out⟩ (fun hHeld => ?_)
                clear hK K
                refine norm_ (a' := ?_) ?_ ?_
                rotate_left
                · show Act.put _ (some 36) _ = _
                  simp only [Act.put, List.setIfInBounds_toArray, List.set_cons_zero, List.set_cons_succ, i64_w, i32_w]
                  rfl
                obtain ⟨AoB, coB, eoB⟩ := Kd.R_slice HVB.out
                subst eoB
                refine one_ (i := 8) (N := some 41) #[true, true, true, true, true, true, true, true, true, false] rfl rfl (one_of HT_.out (by kernel_rfl)) (by decide) (fun K hK => ?_)
                refine Kd.R_append_rows_step k29 (w0 := wc) wc.heap.size (by rfl) (.tmp 36) (.tmp 40) 23 29 (.agg #[(.int .i64 0), (.int .i64 0)]) 16 rfl Try.underlying23 info29 rfl (by decide) (by omega) v36 y197 [(⟨s0_0, s0_1⟩ : S29)] _ _ _ (fun _ => True) (fun _ => False) rfl rfl ?aO ?aR (fun _ _ h => h) (fun _ h => h.elim) ?aF ?aB ?aS ?aL ?_
                (case aR => exact (Kd.R_reads' HVB.out).2.2)
                (case aB => exact HBC.out)
                (case aF => exact (fun _ _ => trivial))
                (case aO => exact HVA.out)
                (case aS => exact HBC.out.size)
                (case aL => have := HLN.out; simp only [List.length_cons, List.length_nil]; omega)
                intro v41 wX11 ho hb hg hat
                have HVX := Aside0.mk ho
                have n2_ := Aside0.mk hb
                clear HBC HVA HVB ho hb hg hat
                have HBC := n2_
                clear n2_
                refine hK.out _ _ ⟨(HBC.out.cell HSZ.out).trans HX0.out, (HBC.out.cell HSZ1.out).trans HX1.out⟩ (fun hHeld => ?_)
                clear hK K
                refine norm_ (a' := ?_) ?_ ?_
                rotate_left
                · show Act.put _ (some 41) _ = _
                  simp only [Act.put, List.setIfInBounds_toArray, List.set_cons_zero, List.set_cons_succ, i64_w, i32_w]
                  rfl
                refine pure_ (i := 9) (N := some 6) (v := ?_) (a' := ?_) #[true, true, true, true, true, true, true, true, true, true] rfl rfl (any_of HT_.out (by kernel_rfl)) (fun _ _ _ h => by cases h.1) (Or.inl ⟨by rfl, ?_⟩) ?_ ?_
                rotate_left
                · intro w'
                  go_simp
                  with_reducible rfl
                rotate_left
                · simp only [Act.put, List.setIfInBounds_toArray, List.set_cons_zero, List.set_cons_succ, i64_w, i32_w]
                  rfl
                refine done_ (done_of HT_.out (by kernel_rfl)) ?_
                exact ⟨rfl, _, _, _, _, _, _, _, _, _, rfl, by rw [HTR.out]; exact HVX.out, HBC.out⟩
            · obtain ⟨rfl, v205, u33, u34, u35, u36, u37, u38, u39, u40, rfl, ho0, hb⟩ := hR
              clear hcut hbw hx0 hx1
              have n0_ := Aside0.mk (Kd.R_elder' (by (with_reducible repeat (first | apply Kd.R_alloc | apply Kd.R_drewN | apply Kd.R_drew)); exact HO_3.out) (Kd.R_base ho0) hb); have n1_ := Aside0.mk (Kd.R_elder' (by (with_reducible repeat (first | apply Kd.R_alloc | apply Kd.R_drewN | apply Kd.R_drew)); exact HO_4.out) (Kd.R_base ho0) hb); have n2_ := Aside0.mk (Kd.R_elder' (by (with_reducible repeat (first | apply Kd.R_alloc | apply Kd.R_drewN | apply Kd.R_drew)); exact HO_5.out) (Kd.R_base ho0) hb); have n3_ := Aside0.mk (Kd.R_lower (Kd.R_new' (Kd.R_new' (Kd.R_new' ho0 (Kd.R_lt (by (with_reducible repeat (first | apply Kd.R_alloc | apply Kd.R_drewN | apply Kd.R_drew)); exact HO_3.out))) (Kd.R_lt (by (with_reducible repeat (first | apply Kd.R_alloc | apply Kd.R_drewN | apply Kd.R_drew)); exact HO_4.out))) (Kd.R_lt (by (with_reducible repeat (first | apply Kd.R_alloc | apply Kd.R_drewN | apply Kd.R_drew)); exact HO_5.out))) (below_size (by repeat (first | (with_reducible first | exact HB.out | apply below_alloc | apply pw_below_drewN | apply below_drew1) | exact HB.out)))); have n4_ := Aside0.mk (below_step (by repeat (first | (with_reducible first | exact HB.out | apply below_alloc | apply pw_below_drewN | apply below_drew1) | exact HB.out)) hb); clear HO_3; clear HO_4; clear HO_5; clear HB; have HO_3 := n0_; have HO_4 := n1_; have HO_5 := n2_; have HO206 := n3_; have HB := n4_; clear n0_ n1_ n2_ n3_ n4_; (try clear hb); (try clear hb2); (try clear hk); (try clear hi); (try clear ho0); obtain ⟨Ao34, co34, eo34⟩ := Kd.R_slice HO_4.out; subst eo34
              go_wp2_with (first | ((with_reducible refine gate_callee (f := 11) rfl ?_); refine goesL_ (some 43) rfl rfl Try.func11 (by kernel_rfl) rfl #[.slice Ao34 t195.length co34] rfl (by (try simp only [List.map_toArray, List.map_cons, List.map_nil]); first | done | rfl | (simp only [List.length_drop, List.length_take]; rfl)) ?_; (with_reducible refine (impl_SpansJoin.calls kj5 _ _ t195 t207 _ ?side1 ?side2 A28.out).mono ?_); (case side1 => repeat (first | exact (Kd.R_reads' HO_4.out).2.2 | (with_reducible refine Kd.C_alloc ?_ _) | (with_reducible refine Kd.C_drewN ?_ _) | (with_reducible refine Kd.C_drew ?_))); (case side2 => exact (Kd.R_reads' HO_4.out).2.1); rintro e w35 ⟨v208, rfl, ho0, hb⟩; refine ⟨_, rfl, ?_⟩; have n0_ := Aside0.mk (Kd.R_elder' (by (with_reducible repeat (first | apply Kd.R_alloc | apply Kd.R_drewN | apply Kd.R_drew)); exact HO_3.out) (Kd.R_base ho0) hb); have n1_ := Aside0.mk (Kd.R_elder' (by (with_reducible repeat (first | apply Kd.R_alloc | apply Kd.R_drewN | apply Kd.R_drew)); exact HO_4.out) (Kd.R_base ho0) hb); have n2_ := Aside0.mk (Kd.R_elder' (by (with_reducible repeat (first | apply Kd.R_alloc | apply Kd.R_drewN | apply Kd.R_drew)); exact HO_5.out) (Kd.R_base ho0) hb); have n3_ := Aside0.mk (Kd.R_elder' (by (with_reducible repeat (first | apply Kd.R_alloc | apply Kd.R_drewN | apply Kd.R_drew)); exact HO206.out) (Kd.R_base ho0) hb); have n4_ := Aside0.mk (Kd.R_lower (Kd.R_new' (Kd.R_new' (Kd.R_new' (Kd.R_new' ho0 (Kd.R_lt (by (with_reducible repeat (first | apply Kd.R_alloc | apply Kd.R_drewN | apply Kd.R_drew)); exact HO_3.out))) (Kd.R_lt (by (with_reducible repeat (first | apply Kd.R_alloc | apply Kd.R_drewN | apply Kd.R_drew)); exact HO_4.out))) (Kd.R_lt (by (with_reducible repeat (first | apply Kd.R_alloc | apply Kd.R_drewN | apply Kd.R_drew)); exact HO_5.out))) (Kd.R_lt (by (with_reducible repeat (first | apply Kd.R_alloc | apply Kd.R_drewN | apply Kd.R_drew)); exact HO206.out))) (below_size (by repeat (first | (with_reducible first | exact HB.out | apply below_alloc | apply pw_below_drewN | apply below_drew1) | exact HB.out)))); have n5_ := Aside0.mk (below_step (by repeat (first | (with_reducible first | exact HB.out | apply below_alloc | apply pw_below_drewN | apply below_drew1) | exact HB.out)) hb); clear HO_3; clear HO_4; clear HO_5; clear HO206; clear HB; have HO_3 := n0_; have HO_4 := n1_; have HO_5 := n2_; have HO206 := n3_; have HO209 := n4_; have HB := n5_; clear n0_ n1_ n2_ n3_ n4_ n5_; (try clear hb); (try clear hb2); (try clear hk); (try clear hi); (try clear ho0); obtain ⟨Ao36, co36, eo36⟩ := Kd.R_slice HO209.out; subst eo36) | ((with_reducible refine gate_callee (f := 13) rfl ?_); refine goesL_ (some 45) rfl rfl Try.func13 (by kernel_rfl) rfl #[.slice Ao36 t207.length co36, .slice Ao34 t195.length co34] rfl (by (try simp only [List.map_toArray, List.map_cons, List.map_nil]); first | done | rfl | (simp only [List.length_drop, List.length_take]; rfl)) ?_; (with_reducible refine (laws_sameSpans.calls kj5 _ _ t207 _ _ t195 true _ ?side1 ?side2 ?side3 ?side4 A29.out).mono ?_); (case side1 => repeat (first | exact (Kd.R_reads' HO209.out).2.2 | (with_reducible refine Kd.C_alloc ?_ _) | (with_reducible refine Kd.C_drewN ?_ _) | (with_reducible refine Kd.C_drew ?_))); (case side2 => exact (Kd.R_reads' HO209.out).2.1); (case side3 => repeat (first | exact (Kd.R_reads' HO_4.out).2.2 | (with_reducible refine Kd.C_alloc ?_ _) | (with_reducible refine Kd.C_drewN ?_ _) | (with_reducible refine Kd.C_drew ?_))); (case side4 => exact (Kd.R_reads' HO_4.out).2.1); rintro e w' ⟨rfl, ⟨nd, rfl⟩⟩; refine ⟨_, rfl, ?_⟩; obtain ⟨Ao37, co37, eo37⟩ := Kd.R_slice HO206.out; subst eo37) | (go_at_call 11; (with_reducible refine (impl_SpansJoin.calls kj5 _ _ t204 t211 _ ?side1 ?side2 A31.out).mono ?_); (case side1 => repeat (first | exact (Kd.R_reads' HO206.out).2.2 | (with_reducible refine Kd.C_alloc ?_ _) | (with_reducible refine Kd.C_drewN ?_ _) | (with_reducible refine Kd.C_drew ?_))); (case side2 => exact (Kd.R_reads' HO206.out).2.1); rintro e w38 ⟨v212, rfl, ho0, hb⟩; have n0_ := Aside0.mk (Kd.R_elder' (by (with_reducible repeat (first | apply Kd.R_alloc | apply Kd.R_drewN | apply Kd.R_drew)); exact HO_3.out) (Kd.R_base ho0) hb); have n1_ := Aside0.mk (Kd.R_elder' (by (with_reducible repeat (first | apply Kd.R_alloc | apply Kd.R_drewN | apply Kd.R_drew)); exact HO_4.out) (Kd.R_base ho0) hb); have n2_ := Aside0.mk (Kd.R_elder' (by (with_reducible repeat (first | apply Kd.R_alloc | apply Kd.R_drewN | apply Kd.R_drew)); exact HO_5.out) (Kd.R_base ho0) hb); have n3_ := Aside0.mk (Kd.R_elder' (by (with_reducible repeat (first | apply Kd.R_alloc | apply Kd.R_drewN | apply Kd.R_drew)); exact HO206.out) (Kd.R_base ho0) hb); have n4_ := Aside0.mk (Kd.R_elder' (by (with_reducible repeat (first | apply Kd.R_alloc | apply Kd.R_drewN | apply Kd.R_drew)); exact HO209.out) (Kd.R_base ho0) hb); have n5_ := Aside0.mk (Kd.R_lower (Kd.R_new' (Kd.R_new' (Kd.R_new' (Kd.R_new' (Kd.R_new' ho0 (Kd.R_lt (by (with_reducible repeat (first | apply Kd.R_alloc | apply Kd.R_drewN | apply Kd.R_drew)); exact HO_3.out))) (Kd.R_lt (by (with_reducible repeat (first | apply Kd.R_alloc | apply Kd.R_drewN | apply Kd.R_drew)); exact HO_4.out))) (Kd.R_lt (by (with_reducible repeat (first | apply Kd.R_alloc | apply Kd.R_drewN | apply Kd.R_drew)); exact HO_5.out))) (Kd.R_lt (by (with_reducible repeat (first | apply Kd.R_alloc | apply Kd.R_drewN | apply Kd.R_drew)); exact HO206.out))) (Kd.R_lt (by (with_reducible repeat (first | apply Kd.R_alloc | apply Kd.R_drewN | apply Kd.R_drew)); exact HO209.out))) (below_size (by repeat (first | (with_reducible first | exact HB.out | apply below_alloc | apply pw_below_drewN | apply below_drew1) | exact HB.out)))); have n6_ := Aside0.mk (below_step (by repeat (first | (with_reducible first | exact HB.out | apply below_alloc | apply pw_below_drewN | apply below_drew1) | exact HB.out)) hb); clear HO_3; clear HO_4; clear HO_5; clear HO206; clear HO209; clear HB; have HO_3 := n0_; have HO_4 := n1_; have HO_5 := n2_; have HO206 := n3_; have HO209 := n4_; have HO213 := n5_; have HB := n6_; clear n0_ n1_ n2_ n3_ n4_ n5_ n6_; (try clear hb); (try clear hb2); (try clear hk); (try clear hi); (try clear ho0); obtain ⟨Ao39, co39, eo39⟩ := Kd.R_slice HO213.out; subst eo39) | (go_at_call 13; (with_reducible refine (laws_sameSpans.calls kj5 _ _ t211 _ _ t195 t214 _ ?side1 ?side2 ?side3 ?side4 A32.out).mono ?_); (case side1 => repeat (first | exact (Kd.R_reads' HO213.out).2.2 | (with_reducible refine Kd.C_alloc ?_ _) | (with_reducible refine Kd.C_drewN ?_ _) | (with_reducible refine Kd.C_drew ?_))); (case side2 => exact (Kd.R_reads' HO213.out).2.1); (case side3 => repeat (first | exact (Kd.R_reads' HO_4.out).2.2 | (with_reducible refine Kd.C_alloc ?_ _) | (with_reducible refine Kd.C_drewN ?_ _) | (with_reducible refine Kd.C_drew ?_))); (case side4 => exact (Kd.R_reads' HO_4.out).2.1); rintro e w' ⟨rfl, ⟨nd, rfl⟩⟩))
              go_ret
              exact ⟨by first | rfl | (simp [errW_none, errW_some] <;> rfl) | (simp [*, errW_none, errW_some] <;> rfl), by repeat (first | (with_reducible first | exact HB.out | apply below_alloc | apply pw_below_drewN | apply below_drew1) | exact HB.out)⟩

          · replace c30 := Bool.eq_false_iff.mpr c30
            subst c30
            have H1 : (some false) = some r := by rw [if_neg (show ¬ (false = true) by decide)] at H; exact H
            clear H
            have H := H1
            clear H1
            obtain rfl := Option.some.inj H
            exact absurd hr.out (by decide)

end Go.Proofs.Ytphjimjcfpnkmaa.PFnSpansTwice
