-- PRINTED BY print.sh 35421559b90ae4d0a3588c463048766b98c2df88dd9212a6774a882060cdf62d: not written by this session
import Derived.Test.YtkjkapmjhafimaaPFnAmountScalex0
import Derived.Test.YtkjkapmjhafimaaPFnAmountScalex2
namespace Go.Proofs.Ytkjkapmjhafimaa.PFnAmountScale
open Go.RowKit Go.Proofs.YtkjkapmjhafimaaW.PrintWords Go.Proofs.YtkjkapmjhafimaaW.PrintLast Go.Proofs.YtkjkapmjhafimaaW.PrintMore
attribute [local go_sem] max2_int min2_int max_two min_two max_three min_three max_four min_four   -- for this text's walks alone
set_option linter.unusedVariables false
set_option linter.unusedSimpArgs false

/-! ### spec_DrawAmountScale: function 39 -/
def spec_DrawAmountScale.f (k : Nat) (l0 : List Int) : Option (Int × Int × Int × Int) := (spec_l6Open.f l0).bind fun bt126 => ((spec_l91Amount.f k bt126.1 bt126.2).bind fun bt129 => ((spec_l6Rd_pick.f k bt126.1 bt129.2.2 10).bind fun bt133 => (if bt133.1 = 0 then ((some (([(-1), 0, 999, 1000] : List Int) : List Int)).bind fun y135 => ((spec_l6Rd_pick.f k bt126.1 bt133.2 4).bind fun bt138 => (if 0 ≤ bt138.1 then (if bt138.1 < (y135.length : Int) then ((some (([0, 1, 999, 1000] : List Int) : List Int)).bind fun y141 => ((spec_l6Rd_pick.f k bt126.1 bt138.2 4).bind fun bt144 => (if 0 ≤ bt144.1 then (if bt144.1 < (y141.length : Int) then (some (bt129.1, bt129.2.1, rd y135 bt138.1, rd y141 bt144.1)) else (none)) else (none)))) else (none)) else (none)))) else ((spec_l6Rd_pick.f k bt126.1 bt133.2 40).bind fun bt147 => ((spec_l6Rd_pick.f k bt126.1 bt147.2 30).bind fun bt149 => (some (bt129.1, bt129.2.1, bt147.1, wrap64 (1 + bt149.1))))))))
theorem spec_DrawAmountScale.mono : ∀ a0 k, LeO (spec_DrawAmountScale.f k a0) (spec_DrawAmountScale.f (k + 1) a0) := by
  intro a0 k
  unfold spec_DrawAmountScale.f
  repeat' first
      | (with_reducible exact spec_l6Rd_pick.mono _ _ _ _)
      | (with_reducible exact spec_l91Amount.mono _ _ _)
      | (with_reducible exact LeO.refl _)
      | (with_reducible exact LeO.none _)
      | (with_reducible refine LeO.ite ?_ ?_)
      | (with_reducible refine LeO.bind ?_ (fun _ => ?_))
      | exact spec_l6Rd_pick.mono _ _ _ _
      | exact spec_l91Amount.mono _ _ _
      | exact LeO.none _
      | refine LeO.ite ?_ ?_
      | refine LeO.bind ?_ (fun _ => ?_)
def spec_DrawAmountScale.T4 : Bool × List (List Nat × List Nat) := (true, [([], []), ([], []), ([], []), ([2], [2]), ([1, 3], [1, 3]), ([4], [4]), ([], []), ([], []), ([7, 3], [7]), ([6, 8], [6, 8]), ([9], [9]), ([0, 8, 0], [0]), ([5, 11, 0, 1, 2, 3, 4, 5, 11], [5]), ([10, 12, 0, 1, 2, 3, 4, 5, 6, 7, 8, 9, 10, 11, 12], [10])])
def spec_DrawAmountScale.B4 : List Nat := [0, 0, 0, 4, 14, 30, 0, 0, 140, 460, 972, 397, 2495, 8191]
theorem spec_DrawAmountScale.tab4 : rtab .any (opsOf Try.f39 4) = spec_DrawAmountScale.T4 := by kernel_rfl
theorem spec_DrawAmountScale.bits4 : waitsOk spec_DrawAmountScale.T4.2 spec_DrawAmountScale.B4 = true := by kernel_rfl
def spec_DrawAmountScale.T6 : Bool × List (List Nat × List Nat) := (true, [([], []), ([], []), ([], []), ([2], [2]), ([3], [3]), ([0, 3, 0], [0]), ([1, 5, 0, 1, 5], [1]), ([4, 6, 0, 1, 2, 3, 4, 5, 6], [4])])
def spec_DrawAmountScale.B6 : List Nat := [0, 0, 0, 4, 12, 13, 47, 127]
theorem spec_DrawAmountScale.tab6 : rtab .any (opsOf Try.f39 6) = spec_DrawAmountScale.T6 := by kernel_rfl
theorem spec_DrawAmountScale.bits6 : waitsOk spec_DrawAmountScale.T6.2 spec_DrawAmountScale.B6 = true := by kernel_rfl
set_option maxHeartbeats 8000000 in
set_option maxRecDepth 100000 in
theorem spec_DrawAmountScale.calls (k : Nat) (A0 : Option Addr) (c0 : Nat) (l0 : List Int) (r1 : Int) (r2 : Int) (r3 : Int) (r4 : Int) (w : World) (hr0 : Kd.C (Kd.int .u8) w A0 l0.length l0) (hc0 : l0.length ≤ c0) (h : spec_DrawAmountScale.f k l0 = some (r1, r2, r3, r4)) :
    Calls Try.prog 39 #[.slice A0 l0.length c0] w fun e w' => e = .returned (.tuple #[.agg #[.int .i64 r1, .int .i64 r2], .int .i64 r3, .int .i64 r4]) ∧ Below w.heap.size w w' := by
  have hu29 := Try.underlying29
  have HR0 := Aside0.mk hr0
  have HC0 := Aside0.mk hc0
  clear hr0 hc0
  have HB := Aside0.mk (Below.refl w.heap.size w)
  have H : ((spec_l6Open.f l0).bind fun bt126 => ((spec_l91Amount.f k bt126.1 bt126.2).bind fun bt129 => ((spec_l6Rd_pick.f k bt126.1 bt129.2.2 10).bind fun bt133 => (if bt133.1 = 0 then ((some (([(-1), 0, 999, 1000] : List Int) : List Int)).bind fun y135 => ((spec_l6Rd_pick.f k bt126.1 bt133.2 4).bind fun bt138 => (if 0 ≤ bt138.1 then (if bt138.1 < (y135.length : Int) then ((some (([0, 1, 999, 1000] : List Int) : List Int)).bind fun y141 => ((spec_l6Rd_pick.f k bt126.1 bt138.2 4).bind fun bt144 => (if 0 ≤ bt144.1 then (if bt144.1 < (y141.length : Int) then (some (bt129.1, bt129.2.1, rd y135 bt138.1, rd y141 bt144.1)) else (none)) else (none)))) else (none)) else (none)))) else ((spec_l6Rd_pick.f k bt126.1 bt133.2 40).bind fun bt147 => ((spec_l6Rd_pick.f k bt126.1 bt147.2 30).bind fun bt149 => (some (bt129.1, bt129.2.1, bt147.1, wrap64 (1 + bt149.1))))))))) = some (r1, r2, r3, r4) := h
  clear h
  replace H := Option.bind_eq_some_iff.mp H
  obtain ⟨⟨t126, t127⟩, A20, H⟩ := H
  replace H : ((spec_l91Amount.f k t126 t127).bind fun bt129 => ((spec_l6Rd_pick.f k t126 bt129.2.2 10).bind fun bt133 => (if bt133.1 = 0 then ((some (([(-1), 0, 999, 1000] : List Int) : List Int)).bind fun y135 => ((spec_l6Rd_pick.f k t126 bt133.2 4).bind fun bt138 => (if 0 ≤ bt138.1 then (if bt138.1 < (y135.length : Int) then ((some (([0, 1, 999, 1000] : List Int) : List Int)).bind fun y141 => ((spec_l6Rd_pick.f k t126 bt138.2 4).bind fun bt144 => (if 0 ≤ bt144.1 then (if bt144.1 < (y141.length : Int) then (some (bt129.1, bt129.2.1, rd y135 bt138.1, rd y141 bt144.1)) else (none)) else (none)))) else (none)) else (none)))) else ((spec_l6Rd_pick.f k t126 bt133.2 40).bind fun bt147 => ((spec_l6Rd_pick.f k t126 bt147.2 30).bind fun bt149 => (some (bt129.1, bt129.2.1, bt147.1, wrap64 (1 + bt149.1)))))))) = some (r1, r2, r3, r4) := H
  have A2 := Aside0.mk A20
  clear A20
  replace H := Option.bind_eq_some_iff.mp H
  obtain ⟨⟨t129, t130, t131⟩, A30, H⟩ := H
  replace H : ((spec_l6Rd_pick.f k t126 t131 10).bind fun bt133 => (if bt133.1 = 0 then ((some (([(-1), 0, 999, 1000] : List Int) : List Int)).bind fun y135 => ((spec_l6Rd_pick.f k t126 bt133.2 4).bind fun bt138 => (if 0 ≤ bt138.1 then (if bt138.1 < (y135.length : Int) then ((some (([0, 1, 999, 1000] : List Int) : List Int)).bind fun y141 => ((spec_l6Rd_pick.f k t126 bt138.2 4).bind fun bt144 => (if 0 ≤ bt144.1 then (if bt144.1 < (y141.length : Int) then (some (t129, t130, rd y135 bt138.1, rd y141 bt144.1)) else (none)) else (none)))) else (none)) else (none)))) else ((spec_l6Rd_pick.f k t126 bt133.2 40).bind fun bt147 => ((spec_l6Rd_pick.f k t126 bt147.2 30).bind fun bt149 => (some (t129, t130, bt147.1, wrap64 (1 + bt149.1))))))) = some (r1, r2, r3, r4) := H
  have A3 := Aside0.mk A30
  clear A30
  replace H := Option.bind_eq_some_iff.mp H
  obtain ⟨⟨t133, t134⟩, A40, H⟩ := H
  replace H : (if t133 = 0 then ((some (([(-1), 0, 999, 1000] : List Int) : List Int)).bind fun y135 => ((spec_l6Rd_pick.f k t126 t134 4).bind fun bt138 => (if 0 ≤ bt138.1 then (if bt138.1 < (y135.length : Int) then ((some (([0, 1, 999, 1000] : List Int) : List Int)).bind fun y141 => ((spec_l6Rd_pick.f k t126 bt138.2 4).bind fun bt144 => (if 0 ≤ bt144.1 then (if bt144.1 < (y141.length : Int) then (some (t129, t130, rd y135 bt138.1, rd y141 bt144.1)) else (none)) else (none)))) else (none)) else (none)))) else ((spec_l6Rd_pick.f k t126 t134 40).bind fun bt147 => ((spec_l6Rd_pick.f k t126 bt147.2 30).bind fun bt149 => (some (t129, t130, bt147.1, wrap64 (1 + bt149.1)))))) = some (r1, r2, r3, r4) := H
  have A4 := Aside0.mk A40
  clear A40
  by_cases c5 : t133 = 0
  · rw [if_pos c5] at H
    have c5b0 : (t133 == 0) = true := beq_iff_eq.mpr c5
    have c5b1 : (t133 != 0) = false := bne_eq_false_iff_eq.mpr c5
    clear c5
    obtain ⟨y135, hy135⟩ : ∃ y_ : List Int, y_ = (([(-1), 0, 999, 1000] : List Int)) := ⟨_, rfl⟩
    replace H : ((spec_l6Rd_pick.f k t126 t134 4).bind fun bt138 => (if 0 ≤ bt138.1 then (if bt138.1 < (y135.length : Int) then ((some (([0, 1, 999, 1000] : List Int) : List Int)).bind fun y141 => ((spec_l6Rd_pick.f k t126 bt138.2 4).bind fun bt144 => (if 0 ≤ bt144.1 then (if bt144.1 < (y141.length : Int) then (some (t129, t130, rd y135 bt138.1, rd y141 bt144.1)) else (none)) else (none)))) else (none)) else (none))) = some (r1, r2, r3, r4) := by first | (rw [hy135]; with_reducible exact H) | (have H2_ := (Option.bind_some _ _).symm.trans H; rw [hy135]; with_reducible exact H2_) | (have H2_ := (Option.bind_some _ _).symm.trans H; with_reducible exact H2_) | with_reducible exact H | (rw [hy135]; exact H) | exact H
    have Ny135 := Aside0.mk hy135
    clear hy135
    replace H := Option.bind_eq_some_iff.mp H
    obtain ⟨⟨t138, t139⟩, A60, H⟩ := H
    replace H : (if 0 ≤ t138 then (if t138 < (y135.length : Int) then ((some (([0, 1, 999, 1000] : List Int) : List Int)).bind fun y141 => ((spec_l6Rd_pick.f k t126 t139 4).bind fun bt144 => (if 0 ≤ bt144.1 then (if bt144.1 < (y141.length : Int) then (some (t129, t130, rd y135 t138, rd y141 bt144.1)) else (none)) else (none)))) else (none)) else (none)) = some (r1, r2, r3, r4) := H
    have A6 := Aside0.mk A60
    clear A60
    by_cases c7 : 0 ≤ t138
    · rw [if_pos c7] at H
      have c7b0 : decide (0 ≤ t138) = true := decide_eq_true c7
      clear c7
      by_cases c8 : t138 < (y135.length : Int)
      · rw [if_pos c8] at H
        have c8b0 : decide (t138 < (y135.length : Int)) = true := decide_eq_true c8
        clear c8
        obtain ⟨y141, hy141⟩ : ∃ y_ : List Int, y_ = (([0, 1, 999, 1000] : List Int)) := ⟨_, rfl⟩
        replace H : ((spec_l6Rd_pick.f k t126 t139 4).bind fun bt144 => (if 0 ≤ bt144.1 then (if bt144.1 < (y141.length : Int) then (some (t129, t130, rd y135 t138, rd y141 bt144.1)) else (none)) else (none))) = some (r1, r2, r3, r4) := by first | (rw [hy141]; with_reducible exact H) | (have H2_ := (Option.bind_some _ _).symm.trans H; rw [hy141]; with_reducible exact H2_) | (have H2_ := (Option.bind_some _ _).symm.trans H; with_reducible exact H2_) | with_reducible exact H | (rw [hy141]; exact H) | exact H
        have Ny141 := Aside0.mk hy141
        clear hy141
        replace H := Option.bind_eq_some_iff.mp H
        obtain ⟨⟨t144, t145⟩, A90, H⟩ := H
        replace H : (if 0 ≤ t144 then (if t144 < (y141.length : Int) then (some (t129, t130, rd y135 t138, rd y141 t144)) else (none)) else (none)) = some (r1, r2, r3, r4) := H
        have A9 := Aside0.mk A90
        clear A90
        by_cases c10 : 0 ≤ t144
        · rw [if_pos c10] at H
          have c10b0 : decide (0 ≤ t144) = true := decide_eq_true c10
          clear c10
          by_cases c11 : t144 < (y141.length : Int)
          · rw [if_pos c11] at H
            have c11b0 : decide (t144 < (y141.length : Int)) = true := decide_eq_true c11
            clear c11
            simp only [Option.some.injEq, Prod.mk.injEq] at H
            obtain ⟨rfl, rfl, rfl, rfl⟩ := H
            go_enter Try.func39, Try.ntmps39
            try go_wp2_with (first | ((with_reducible refine gate_dst (N := 2) rfl ?_); refine box_event ?hg (N := 2) ?hd (cs := #[.int .i64 0, .int .i64 0]) (t := 29) ?hr ?_; (case hd => rfl); (case hg => rfl); (case hr => first | (go_simp; done) | (go_simp; rfl)); intro gb125 hg w12 hbox hb; have n0_ := Aside0.mk (below_step (by repeat (first | (with_reducible first | exact HB.out | apply below_alloc | apply pw_below_drewN | apply below_drew1) | exact HB.out)) hb); have n1_ := Aside0.mk (hbox); have n2_ := Aside0.mk ((by rw [hg]; exact (below_size (by repeat (first | (with_reducible first | exact HB.out | apply below_alloc | apply pw_below_drewN | apply below_drew1) | exact HB.out))) : w.heap.size ≤ gb125)); have n3_ := Aside0.mk ((by rw [hg]; exact (below_size (by repeat (first | (with_reducible first | exact HB.out | apply below_alloc | apply pw_below_drewN | apply below_drew1) | exact HB.out))) : w.heap.size ≤ gb125)); clear HB; have HB := n0_; have BK125 := n1_; have GW125 := n2_; have GE125 := n3_; clear n0_ n1_ n2_ n3_; clear hb hbox hg) | ((with_reducible refine gate_callee (f := 47) rfl ?_); refine goesL_ (some 9) rfl rfl Try.func47 (by kernel_rfl) rfl #[.slice A0 l0.length c0] rfl (by (try simp only [List.map_toArray, List.map_cons, List.map_nil]); first | done | rfl | (simp only [List.length_drop, List.length_take]; rfl)) ?_; (with_reducible refine (spec_l6Open.calls _ _ l0 t126 t127 w _ ?side1 ?side2 ?side3 A2.out).mono ?_); (case side1 => repeat (first | (with_reducible first | exact HB.out | apply below_alloc | apply pw_below_drewN | apply below_drew1 | refine below_set ?_ GE125.out) | exact HB.out)); (case side2 => exact HR0.out); (case side3 => exact HC0.out); rintro e w13 ⟨g128, rfl, hi, hb, hb2⟩; refine ⟨_, rfl, ?_⟩; have n0_ := Aside0.mk (blk_below (g := gb125) (o := .cells #[.int .i64 0, .int .i64 0] 29 (0, 0)) (by (with_reducible repeat (first | refine blk_drewN ?_ _ | refine blk_drew ?_ | refine blk_alloc ?_ _)); exact BK125.out) hb2); have n1_ := Aside0.mk (hb); have n2_ := Aside0.mk (hi); have n3_ := Aside0.mk (IsS71.ne_blk hi (blk_below (g := gb125) (o := .cells #[.int .i64 0, .int .i64 0] 29 (0, 0)) (by (with_reducible repeat (first | refine blk_drewN ?_ _ | refine blk_drew ?_ | refine blk_alloc ?_ _)); exact BK125.out) hb2) (by decide)); have n4_ := Aside0.mk (Ne.symm (IsS71.ne_blk hi (blk_below (g := gb125) (o := .cells #[.int .i64 0, .int .i64 0] 29 (0, 0)) (by (with_reducible repeat (first | refine blk_drewN ?_ _ | refine blk_drew ?_ | refine blk_alloc ?_ _)); exact BK125.out) hb2) (by decide))); clear BK125; clear HB; have BK125 := n0_; have HB := n1_; have HI128 := n2_; have NB128_125 := n3_; have NB125_128 := n4_; clear n0_ n1_ n2_ n3_ n4_; (try clear hb); (try clear hb2); (try clear hk); (try clear hi)) | ((with_reducible refine gate_callee (f := 48) rfl ?_); refine goesL_ (some 11) rfl rfl Try.func48 (by kernel_rfl) rfl #[.pointer (some ⟨g128, 0, none⟩)] rfl (by (try simp only [List.map_toArray, List.map_cons, List.map_nil]); first | done | rfl | (simp only [List.length_drop, List.length_take]; rfl)) ?_; (with_reducible refine (spec_l91Amount.calls k g128 t126 t127 t129 t130 t131 w _ ?side1 ?side2 A3.out).mono ?_); (case side1 => repeat (first | (with_reducible first | exact HI128.out | apply IsS71.alloc | apply IsS71.drewN | apply IsS71.drew | apply IsS71.set_1 | refine IsS71.far ?_ NB128_125.out _) | exact HI128.out)); (case side2 => repeat (first | (with_reducible first | exact HB.out | apply below_alloc | apply pw_below_drewN | apply below_drew1 | refine below_set ?_ (IsS71.ge HI128.out) | refine below_set ?_ GE125.out) | exact HB.out)); rintro e w14 ⟨rfl, hi, hb, hk⟩; refine ⟨_, rfl, ?_⟩; have n0_ := Aside0.mk (KeepBut.blk hk (g' := gb125) (o := .cells #[.int .i64 0, .int .i64 0] 29 (0, 0)) (by (with_reducible repeat (first | refine blk_drewN ?_ _ | refine blk_drew ?_ | refine blk_alloc ?_ _)); exact BK125.out) NB125_128.out (by simp)); have n1_ := Aside0.mk (hb); have n2_ := Aside0.mk (hi); clear BK125; clear HB; clear HI128; have BK125 := n0_; have HB := n1_; have HI128 := n2_; clear n0_ n1_ n2_; (try clear hb); (try clear hb2); (try clear hk); (try clear hi)) | ((with_reducible refine gate_dst (N := 6) rfl ?_); refine box_event ?hg (N := 6) ?hd (cs := #[.int .i64 0, .int .i64 0]) (t := 29) ?hr ?_; (case hd => rfl); (case hg => rfl); (case hr => first | (go_simp; done) | (go_simp; rfl)); intro gb132 hg w15 hbox hb; have n0_ := Aside0.mk (blk_below (g := gb125) (o := .cells #[.int .i64 0, .int .i64 0] 29 (0, 0)) (by (with_reducible repeat (first | refine blk_drewN ?_ _ | refine blk_drew ?_ | refine blk_alloc ?_ _)); exact BK125.out) hb); have n1_ := Aside0.mk (IsS71.below (by repeat (first | (with_reducible first | exact HI128.out | apply IsS71.alloc | apply IsS71.drewN | apply IsS71.drew | apply IsS71.set_1 | refine IsS71.far ?_ NB128_125.out _) | exact HI128.out)) hb); have n2_ := Aside0.mk (below_step (by repeat (first | (with_reducible first | exact HB.out | apply below_alloc | apply pw_below_drewN | apply below_drew1 | refine below_set ?_ (IsS71.ge HI128.out) | refine below_set ?_ GE125.out) | exact HB.out)) hb); have n3_ := Aside0.mk (hbox); have n4_ := Aside0.mk ((by rw [hg]; exact (below_size (by repeat (first | (with_reducible first | exact HB.out | apply below_alloc | apply pw_below_drewN | apply below_drew1 | refine below_set ?_ (IsS71.ge HI128.out) | refine below_set ?_ GE125.out) | exact HB.out))) : w.heap.size ≤ gb132)); have n5_ := Aside0.mk ((by rw [hg]; exact (below_size (by repeat (first | (with_reducible first | exact HB.out | apply below_alloc | apply pw_below_drewN | apply below_drew1 | refine below_set ?_ (IsS71.ge HI128.out) | refine below_set ?_ GE125.out) | exact HB.out))) : w.heap.size ≤ gb132)); have n6_ := Aside0.mk ((by rw [hg]; exact Nat.ne_of_lt (blk_lt (g := gb125) (o := .cells #[.int .i64 0, .int .i64 0] 29 (0, 0)) (by (with_reducible repeat (first | refine blk_drewN ?_ _ | refine blk_drew ?_ | refine blk_alloc ?_ _)); exact BK125.out)) : gb125 ≠ gb132)); have n7_ := Aside0.mk ((by rw [hg]; exact Nat.ne_of_gt (blk_lt (g := gb125) (o := .cells #[.int .i64 0, .int .i64 0] 29 (0, 0)) (by (with_reducible repeat (first | refine blk_drewN ?_ _ | refine blk_drew ?_ | refine blk_alloc ?_ _)); exact BK125.out)) : gb132 ≠ gb125)); have n8_ := Aside0.mk ((by rw [hg]; exact Nat.ne_of_lt (IsS71.lt (show IsS71 w _ g128 t126 t131 from by repeat (first | (with_reducible first | exact HI128.out | apply IsS71.alloc | apply IsS71.drewN | apply IsS71.drew | apply IsS71.set_1 | refine IsS71.far ?_ NB128_125.out _) | exact HI128.out))) : g128 ≠ gb132)); have n9_ := Aside0.mk ((by rw [hg]; exact Nat.ne_of_gt (IsS71.lt (show IsS71 w _ g128 t126 t131 from by repeat (first | (with_reducible first | exact HI128.out | apply IsS71.alloc | apply IsS71.drewN | apply IsS71.drew | apply IsS71.set_1 | refine IsS71.far ?_ NB128_125.out _) | exact HI128.out))) : gb132 ≠ g128)); clear BK125; clear HI128; clear HB; have BK125 := n0_; have HI128 := n1_; have HB := n2_; have BK132 := n3_; have GW132 := n4_; have GE132 := n5_; have NB125_132 := n6_; have NB132_125 := n7_; have NB128_132 := n8_; have NB132_128 := n9_; clear n0_ n1_ n2_ n3_ n4_ n5_ n6_ n7_ n8_ n9_; clear hb hbox hg; have hnb16 := NB132_125.out; have hnc16 := NB125_132.out; have hnb17 := NB132_128.out; have hnc17 := NB128_132.out; have hcz18_0 : w15.cell? ⟨gb132, 0, none⟩ = some (.int .i64 0) := (blk_cell BK132.out 0).trans rfl; have hcz18_1 : w15.cell? ⟨gb132, 1, none⟩ = some (.int .i64 0) := (blk_cell BK132.out 1).trans rfl; have hfz18_0 := blk_frozen BK132.out 0; have hfz18_1 := blk_frozen BK132.out 1) | ((with_reducible refine gate_callee (f := 49) rfl ?_); refine goesL_ (some 13) rfl rfl Try.func49 (by kernel_rfl) rfl #[.pointer (some ⟨g128, 0, none⟩), .int .i64 10] rfl (by (try simp only [List.map_toArray, List.map_cons, List.map_nil]); first | done | rfl | (simp only [List.length_drop, List.length_take]; rfl)) ?_; (with_reducible refine (spec_l6Rd_pick.calls k g128 t126 t131 10 t133 t134 w _ ?side1 ?side2 A4.out).mono ?_); (case side1 => repeat (first | (with_reducible first | exact HI128.out | apply IsS71.alloc | apply IsS71.drewN | apply IsS71.drew | apply IsS71.set_1 | refine IsS71.far ?_ NB128_125.out _ | refine IsS71.far ?_ NB128_132.out _) | exact HI128.out)); (case side2 => repeat (first | (with_reducible first | exact HB.out | apply below_alloc | apply pw_below_drewN | apply below_drew1 | refine below_set ?_ (IsS71.ge HI128.out) | refine below_set ?_ GE125.out | refine below_set ?_ GE132.out) | exact HB.out)); rintro e w19 ⟨rfl, hi, hb, hk⟩; refine ⟨_, rfl, ?_⟩; have n0_ := Aside0.mk (KeepBut.blk hk (g' := gb125) (o := .cells #[.int .i64 0, .int .i64 0] 29 (0, 0)) (by (with_reducible repeat (first | refine blk_drewN ?_ _ | refine blk_drew ?_ | refine blk_alloc ?_ _)); refine blk_far ?_ NB125_132.out _; (with_reducible repeat (first | refine blk_drewN ?_ _ | refine blk_drew ?_ | refine blk_alloc ?_ _)); refine blk_far ?_ NB125_132.out _; (with_reducible repeat (first | refine blk_drewN ?_ _ | refine blk_drew ?_ | refine blk_alloc ?_ _)); exact BK125.out) NB125_128.out (by simp)); have n1_ := Aside0.mk (KeepBut.blk hk (g' := gb132) (o := .cells #[.int .i64 t129, .int .i64 t130] 29 (0, 0)) (by (with_reducible repeat (first | refine blk_drewN ?_ _ | refine blk_drew ?_ | refine blk_alloc ?_ _)); refine blk_put (cs := #[.int .i64 t129, .int .i64 0]) ?_ 1 _ rfl; (with_reducible repeat (first | refine blk_drewN ?_ _ | refine blk_drew ?_ | refine blk_alloc ?_ _)); refine blk_put (cs := #[.int .i64 0, .int .i64 0]) ?_ 0 _ rfl; (with_reducible repeat (first | refine blk_drewN ?_ _ | refine blk_drew ?_ | refine blk_alloc ?_ _)); exact BK132.out) NB132_128.out (by simp)); have n2_ := Aside0.mk (hb); have n3_ := Aside0.mk (hi); clear BK125; clear BK132; clear HB; clear HI128; have BK125 := n0_; have BK132 := n1_; have HB := n2_; have HI128 := n3_; clear n0_ n1_ n2_ n3_; (try clear hb); (try clear hb2); (try clear hk); (try clear hi)))
            have pi140 : (0 ≤ (t138 : Int)) = True := eq_true (of_decide_eq_true (by first | (with_reducible assumption) | assumption))
            have qi140 : (t138 < (y135.length : Int)) = True := eq_true (of_decide_eq_true (by first | (with_reducible assumption) | assumption))
            have pi146 : (0 ≤ (t144 : Int)) = True := eq_true (of_decide_eq_true (by first | (with_reducible assumption) | assumption))
            have qi146 : (t144 < (y141.length : Int)) = True := eq_true (of_decide_eq_true (by first | (with_reducible assumption) | assumption))
            have n0_ := Aside0.mk (blk_drew BK125.out)
            have n1_ := Aside0.mk (blk_drew BK132.out)
            have n2_ := Aside0.mk (IsS71.drew HI128.out)
            have n3_ := Aside0.mk (below_drew1 HB.out)
            clear BK125
            clear BK132
            clear HI128
            clear HB
            have BK125 := n0_
            have BK132 := n1_
            have HI128 := n2_
            have HB := n3_
            clear n0_ n1_ n2_ n3_
            refine start_ (n := 14) (S := fun w' => True) (ds := []) #[false, false, false, false, false, false, false, false, false, false, false, false, false, false] (by kernel_rfl) rfl rfl trivial (fun hHeld => ?_); refine with_tabW spec_DrawAmountScale.tab4 spec_DrawAmountScale.bits4 (fun HT_ HW_ => ?_)
            generalize w19.drew = w20 at BK125 BK132 HI128 HB hHeld ⊢
            refine pure_ (i := 2) (N := some 17) (v := ?_) (a' := ?_) #[false, false, true, false, false, false, false, false, false, false, false, false, false, false] rfl rfl (any_of HT_.out (by kernel_rfl)) (fun _ _ _ h => h) (Or.inl ⟨by rfl, ?_⟩) ?_ ?_
            rotate_left
            · intro w'
              go_simp
              with_reducible rfl
            rotate_left
            · simp only [Act.put, List.setIfInBounds_toArray, List.set_cons_zero, List.set_cons_succ, i64_w, i32_w]
              rfl
            refine pure_ (i := 7) (N := some 22) (v := ?_) (a' := ?_) #[false, false, true, false, false, false, false, true, false, false, false, false, false, false] rfl rfl (any_of HT_.out (by kernel_rfl)) (fun _ _ _ h => h) (Or.inl ⟨by rfl, ?_⟩) ?_ ?_
            rotate_left
            · intro w'
              go_simp
              with_reducible rfl
            rotate_left
            · simp only [Act.put, List.setIfInBounds_toArray, List.set_cons_zero, List.set_cons_succ, i64_w, i32_w]
              rfl
            refine inv_at [0, 1, 3, 4, 5, 6, 8, 9, 10, 11, 12, 13] (fun a0_ b a w' => ∃ (v136 : Value) (adz_v136 : Addr) (v142 : Value) (adz_v142 : Addr) (m4_ : Value) (m9_ : Value), a = putSel a0_ b [(0, 15, .agg #[.int .i64 t129, .int .i64 t130]), (1, 16, v136), (3, 18, .int .i64 t138), (4, 19, m4_), (5, 20, .int .i64 (rd y135 t138)), (6, 21, v142), (8, 23, .int .i64 t144), (9, 24, m9_), (10, 25, .int .i64 (rd y141 t144)), (12, 3, .int .i64 (rd y135 t138)), (13, 4, .int .i64 (rd y141 t144))] ∧ (b 11 = false → w'.heap[gb125]? = some (.cells #[.int .i64 0, .int .i64 0] 29 (0, 0))) ∧ (w'.heap[gb132]? = some (.cells #[.int .i64 t129, .int .i64 t130] 29 (0, 0))) ∧ (b 3 = false → IsS71 w w' g128 t126 t134) ∧ (Below w.heap.size w w') ∧ (b 1 = true → Kd.R (Kd.int .i64) 3 w' w.heap.size (fun _ => True) v136 y135) ∧ (b 1 = true → ∃ c_, (v136 : Value) = .slice (some adz_v136) y135.length c_) ∧ (b 3 = true → b 8 = false → IsS71 w w' g128 t126 t139) ∧ (b 6 = true → Kd.R (Kd.int .i64) 3 w' w.heap.size (fun _ => True) v142 y141) ∧ (b 6 = true → ∃ c_, (v142 : Value) = .slice (some adz_v142) y141.length c_) ∧ (b 8 = true → IsS71 w w' g128 t126 t145) ∧ (b 11 = true → w'.heap[gb125]? = some (.cells #[.int .i64 t129, .int .i64 t130] 29 (0, 0))) ∧ (b 4 = true → (m4_ : Value) = .pointer (some (adz_v136.add (t138).toNat))) ∧ (b 9 = true → (m9_ : Value) = .pointer (some (adz_v142.add (t144).toNat)))) HT_.out HW_.out (by kernel_rfl) (by kernel_rfl) ?_ ?_ ?_
            · exact ⟨.bool false, ⟨0, 0, none⟩, .bool false, ⟨0, 0, none⟩, .bool false, .bool false, by simp only [putSel, Bool.false_eq_true, if_false], fun _ => BK125.out, BK132.out, fun _ => HI128.out, HB.out, fun h_ => absurd h_ (by decide), fun h_ => absurd h_ (by decide), fun h_ => absurd h_ (by decide), fun h_ => absurd h_ (by decide), fun h_ => absurd h_ (by decide), fun h_ => absurd h_ (by decide), fun h_ => absurd h_ (by decide), fun h_ => absurd h_ (by decide), fun h_ => absurd h_ (by decide)⟩
            · skip
              clear BK125 BK132 HB HI128
              refine steps_cons ?_ ?_
              · rintro b a w' ⟨v136, adz_v136, v142, adz_v142, m4_, m9_, ha, Q_BK125, Q_BK132, Q_HI128, Q_HB, Q_HO137, Q_HA_HO137, Q_HI128_e3, Q_HO143, Q_HA_HO143, Q_HI128_e8, Q_BK125_e11, Q_X4_, Q_X9_⟩ hb_ hon hoff
                refine ⟨_, rfl, fun K hK => ?_⟩
                have e6 : a.tmps[6]? = some (.pointer (some ⟨gb132, 0, none⟩)) := by rw [ha]; exact (putSel_off rfl).trans rfl
                replace ha := Aside0.mk ha
                have BK125 := Aside0.mk (Q_BK125 (hoff 11 (by kernel_rfl)))
                have BK132 := Aside0.mk Q_BK132
                have HB := Aside0.mk Q_HB
                have hc0_ : w'.cell? ⟨gb132, 0, none⟩ = some (.int .i64 t129) := (blk_cell BK132.out 0).trans rfl
                have hc1_ : w'.cell? ⟨gb132, 1, none⟩ = some (.int .i64 t130) := (blk_cell BK132.out 1).trans rfl
                refine value_ (w1 := w') (v := .agg #[.int .i64 t129, .int .i64 t130]) (by rfl) rfl ?_ ?_
                · go_simp
                  (try simp only [i64_w])
                  try rfl
                refine hK.out _ _ ⟨v136, adz_v136, v142, adz_v142, m4_, m9_, (by rw [ha.out]; exact putSel_upk 0 hb_ rfl rfl rfl), Q_BK125, Q_BK132, Q_HI128, Q_HB, Q_HO137, Q_HA_HO137, Q_HI128_e3, Q_HO143, Q_HA_HO143, Q_HI128_e8, fun h0_ => absurd ((hoff 11 (by kernel_rfl)).symm.trans h0_) (by decide), Q_X4_, Q_X9_⟩
              refine steps_cons ?_ ?_
              · rintro b a w' ⟨v136, adz_v136, v142, adz_v142, m4_, m9_, ha, Q_BK125, Q_BK132, Q_HI128, Q_HB, Q_HO137, Q_HA_HO137, Q_HI128_e3, Q_HO143, Q_HA_HO143, Q_HI128_e8, Q_BK125_e11, Q_X4_, Q_X9_⟩ hb_ hon hoff
                refine ⟨_, rfl, fun K hK => ?_⟩
                replace ha := Aside0.mk ha
                have BK132 := Aside0.mk Q_BK132
                have HB := Aside0.mk Q_HB
                refine Kd.R_lit_step (Kd.int .i64) _ 3 ?hg (N := 16) ?hd (xs := ([(-1), 0, 999, 1000] : List Int)) (inner := [.int .i64 (-1), .int .i64 0, .int .i64 999, .int .i64 1000]) (ok := fun _ => True) (okp := fun _ => True) ?hr ?hp (fun _ hk => hk) trivial (Below.refl _ _) (Nat.le_refl _) (by simp) ?_; (case hd => rfl); (case hg => rfl); (case hr => first | (go_simp; done) | (go_simp; rfl)); (case hp => exact (Reps.one (show Kd.M (Kd.int .i64) _ _ _ (-1) [.int .i64 (-1)] from rfl) (Reps.one (show Kd.M (Kd.int .i64) _ _ _ 0 [.int .i64 0] from rfl) (Reps.one (show Kd.M (Kd.int .i64) _ _ _ 999 [.int .i64 999] from rfl) (Reps.one (show Kd.M (Kd.int .i64) _ _ _ 1000 [.int .i64 1000] from rfl) (Reps.none _ _))))))
                intro v136 w21 ho22 hb hg_ hnew_
                clear hg_ hnew_
                (first | rw [← Ny135.out] at ho22 | (simp only [Int.reduceToNat] at ho22; rw [← Ny135.out] at ho22))
                have n0_ := Aside0.mk (Kd.R_lower ho22 (below_size (by repeat (first | (with_reducible first | exact HB.out | apply below_alloc | apply pw_below_drewN | apply below_drew1 | refine below_set ?_ GE125.out | refine below_set ?_ GE132.out) | exact HB.out))))
                have n3_ := Aside0.mk (blk_below (g := gb132) (o := .cells #[.int .i64 t129, .int .i64 t130] 29 (0, 0)) (by (with_reducible repeat (first | refine blk_drewN ?_ _ | refine blk_drew ?_ | refine blk_alloc ?_ _)); exact BK132.out) hb)
                have n4_ := Aside0.mk (below_step (by repeat (first | (with_reducible first | exact HB.out | apply below_alloc | apply pw_below_drewN | apply below_drew1 | refine below_set ?_ GE125.out | refine below_set ?_ GE132.out) | exact HB.out)) hb)
                have z_BK125 := fun (h0_ : b 11 = false) => (show w21.heap[gb125]? = some (.cells #[.int .i64 0, .int .i64 0] 29 (0, 0)) from by first | exact (blk_below (g := gb125) (o := .cells #[.int .i64 0, .int .i64 0] 29 (0, 0)) (by (with_reducible repeat (first | refine blk_drewN ?_ _ | refine blk_drew ?_ | refine blk_alloc ?_ _)); exact (Q_BK125 h0_)) hb))
                have z_HI128 := fun (h0_ : b 3 = false) => (show IsS71 w w21 g128 t126 t134 from by first | exact (IsS71.below (by repeat (first | (with_reducible first | exact (Q_HI128 h0_) | apply IsS71.alloc | apply IsS71.drewN | apply IsS71.drew | apply IsS71.set_1 | refine IsS71.far ?_ NB128_125.out _ | refine IsS71.far ?_ NB128_132.out _) | exact (Q_HI128 h0_))) hb))
                have z_HI128_e3 := fun (h0_ : b 3 = true) (h1_ : b 8 = false) => (show IsS71 w w21 g128 t126 t139 from by first | exact (IsS71.below (by repeat (first | (with_reducible first | exact (Q_HI128_e3 h0_ h1_) | apply IsS71.alloc | apply IsS71.drewN | apply IsS71.drew | apply IsS71.set_1 | refine IsS71.far ?_ NB128_125.out _ | refine IsS71.far ?_ NB128_132.out _) | exact (Q_HI128_e3 h0_ h1_))) hb))
                have z_HO143 := fun (h0_ : b 6 = true) => (show Kd.R (Kd.int .i64) 3 w21 w.heap.size (fun _ => True) v142 y141 from by first | exact (Kd.R_elder' (by (with_reducible repeat (first | apply Kd.R_alloc | apply Kd.R_drewN | apply Kd.R_drew)); exact (Q_HO143 h0_)) (Kd.R_base ho22) hb) | exact Kd.R_mono (Kd.R_elder' (by (with_reducible repeat (first | apply Kd.R_alloc | apply Kd.R_drewN | apply Kd.R_drew)); exact (Q_HO143 h0_)) (Kd.R_base ho22) hb) (fun _ h_ => by first | trivial | exact h_ | exact h_.1))
                have z_HI128_e8 := fun (h0_ : b 8 = true) => (show IsS71 w w21 g128 t126 t145 from by first | exact (IsS71.below (by repeat (first | (with_reducible first | exact (Q_HI128_e8 h0_) | apply IsS71.alloc | apply IsS71.drewN | apply IsS71.drew | apply IsS71.set_1 | refine IsS71.far ?_ NB128_125.out _ | refine IsS71.far ?_ NB128_132.out _) | exact (Q_HI128_e8 h0_))) hb))
                have z_BK125_e11 := fun (h0_ : b 11 = true) => (show w21.heap[gb125]? = some (.cells #[.int .i64 t129, .int .i64 t130] 29 (0, 0)) from by first | exact (blk_below (g := gb125) (o := .cells #[.int .i64 t129, .int .i64 t130] 29 (0, 0)) (by (with_reducible repeat (first | refine blk_drewN ?_ _ | refine blk_drew ?_ | refine blk_alloc ?_ _)); exact (Q_BK125_e11 h0_)) hb))
                clear BK132
                clear HB
                have HO137 := n0_
                have BK132 := n3_
                have HB := n4_
                clear n0_ n3_ n4_
                clear hb ho22
                obtain ⟨Ao23, co23, eo23⟩ := Kd.R_slice HO137.out
                subst eo23
                obtain ⟨ado23, fo23, _⟩ := Kd.at_int (Kd.R_reads' HO137.out).2.2 0 (by decide) (by rw [Ny135.out]; simp)
                cases fo23
                refine hK.out _ _ ⟨.slice (some ado23) y135.length co23, ado23, v142, adz_v142, m4_, m9_, (by rw [ha.out]; exact putSel_upk 1 hb_ rfl rfl rfl), z_BK125, (by (with_reducible repeat (first | refine blk_drewN ?_ _ | refine blk_drew ?_ | refine blk_alloc ?_ _)); exact BK132.out), z_HI128, (by repeat (first | (with_reducible first | exact HB.out | apply below_alloc | apply pw_below_drewN | apply below_drew1 | refine below_set ?_ GE125.out | refine below_set ?_ GE132.out) | exact HB.out)), fun _ => (by (with_reducible repeat (first | apply Kd.R_alloc | apply Kd.R_drewN | apply Kd.R_drew)); exact HO137.out), fun _ => ⟨_, rfl⟩, z_HI128_e3, z_HO143, Q_HA_HO143, z_HI128_e8, z_BK125_e11, fun h0_ => absurd ((hoff 4 (by kernel_rfl)).symm.trans h0_) (by decide), Q_X9_⟩
              refine steps_cons ?_ ?_
              · rintro b a w' ⟨v136, adz_v136, v142, adz_v142, m4_, m9_, ha, Q_BK125, Q_BK132, Q_HI128, Q_HB, Q_HO137, Q_HA_HO137, Q_HI128_e3, Q_HO143, Q_HA_HO143, Q_HI128_e8, Q_BK125_e11, Q_X4_, Q_X9_⟩ hb_ hon hoff
                refine ⟨_, rfl, fun K hK => ?_⟩
                have e17 : a.tmps[17]? = some (.pointer (some ⟨g128, 0, none⟩)) := by rw [ha]; exact (putSel_off rfl).trans rfl
                replace ha := Aside0.mk ha
                have BK125 := Aside0.mk (Q_BK125 (hoff 11 (by kernel_rfl)))
                have BK132 := Aside0.mk Q_BK132
                have HI128 := Aside0.mk (Q_HI128 hb_)
                have HB := Aside0.mk Q_HB
                refine goes_ Try.func49 (by kernel_rfl) rfl #[.pointer (some ⟨g128, 0, none⟩), .int .i64 4] (by rfl) rfl rfl (by first | (simp only [List.map_toArray, List.map_cons, List.map_nil, Act.eval, Array.getD_eq_getD_getElem?, Option.getD_some, e17]; done) | (simp only [List.map_toArray, List.map_cons, List.map_nil, Act.eval, Array.getD_eq_getD_getElem?, Option.getD_some, e17]; rfl)) ?_
                with_reducible refine (spec_l6Rd_pick.calls k g128 t126 t134 4 t138 t139 w _ ?side1 ?side2 A6.out).mono ?_
                (case side1 => repeat (first | (with_reducible first | exact HI128.out | apply IsS71.alloc | apply IsS71.drewN | apply IsS71.drew | apply IsS71.set_1 | refine IsS71.far ?_ NB128_125.out _ | refine IsS71.far ?_ NB128_132.out _) | exact HI128.out))
                (case side2 => repeat (first | (with_reducible first | exact HB.out | apply below_alloc | apply pw_below_drewN | apply below_drew1 | refine below_set ?_ (IsS71.ge HI128.out) | refine below_set ?_ GE125.out | refine below_set ?_ GE132.out) | exact HB.out))
                rintro e w21 ⟨rfl, hi, hb, hk⟩
                refine ⟨_, rfl, ?_⟩
                have n0_ := Aside0.mk (KeepBut.blk hk (g' := gb125) (o := .cells #[.int .i64 0, .int .i64 0] 29 (0, 0)) (by (with_reducible repeat (first | refine blk_drewN ?_ _ | refine blk_drew ?_ | refine blk_alloc ?_ _)); exact BK125.out) NB125_128.out (by simp))
                have n1_ := Aside0.mk (KeepBut.blk hk (g' := gb132) (o := .cells #[.int .i64 t129, .int .i64 t130] 29 (0, 0)) (by (with_reducible repeat (first | refine blk_drewN ?_ _ | refine blk_drew ?_ | refine blk_alloc ?_ _)); exact BK132.out) NB132_128.out (by simp))
                have n2_ := Aside0.mk (hb)
                have n3_ := Aside0.mk (hi)
                have z_HO137 := fun (h0_ : b 1 = true) => (show Kd.R (Kd.int .i64) 3 w21 w.heap.size (fun _ => True) v136 y135 from by first | exact (Kd.R_mono (Kd.R_keep (IsS71.apart (show IsS71 w _ g128 t126 t134 from by repeat (first | (with_reducible first | exact HI128.out | apply IsS71.alloc | apply IsS71.drewN | apply IsS71.drew | apply IsS71.set_1 | refine IsS71.far ?_ NB128_125.out _ | refine IsS71.far ?_ NB128_132.out _) | exact HI128.out)) (by (with_reducible repeat (first | apply Kd.R_alloc | apply Kd.R_drewN | apply Kd.R_drew)); exact (Q_HO137 h0_)) (by decide)) hk (fun _ h => h.2)) (fun _ h => h.1)) | exact Kd.R_mono (Kd.R_mono (Kd.R_keep (IsS71.apart (show IsS71 w _ g128 t126 t134 from by repeat (first | (with_reducible first | exact HI128.out | apply IsS71.alloc | apply IsS71.drewN | apply IsS71.drew | apply IsS71.set_1 | refine IsS71.far ?_ NB128_125.out _ | refine IsS71.far ?_ NB128_132.out _) | exact HI128.out)) (by (with_reducible repeat (first | apply Kd.R_alloc | apply Kd.R_drewN | apply Kd.R_drew)); exact (Q_HO137 h0_)) (by decide)) hk (fun _ h => h.2)) (fun _ h => h.1)) (fun _ h_ => by first | trivial | exact h_ | exact h_.1))
                have z_HO143 := fun (h0_ : b 6 = true) => (show Kd.R (Kd.int .i64) 3 w21 w.heap.size (fun _ => True) v142 y141 from by first | exact (Kd.R_mono (Kd.R_keep (IsS71.apart (show IsS71 w _ g128 t126 t134 from by repeat (first | (with_reducible first | exact HI128.out | apply IsS71.alloc | apply IsS71.drewN | apply IsS71.drew | apply IsS71.set_1 | refine IsS71.far ?_ NB128_125.out _ | refine IsS71.far ?_ NB128_132.out _) | exact HI128.out)) (by (with_reducible repeat (first | apply Kd.R_alloc | apply Kd.R_drewN | apply Kd.R_drew)); exact (Q_HO143 h0_)) (by decide)) hk (fun _ h => h.2)) (fun _ h => h.1)) | exact Kd.R_mono (Kd.R_mono (Kd.R_keep (IsS71.apart (show IsS71 w _ g128 t126 t134 from by repeat (first | (with_reducible first | exact HI128.out | apply IsS71.alloc | apply IsS71.drewN | apply IsS71.drew | apply IsS71.set_1 | refine IsS71.far ?_ NB128_125.out _ | refine IsS71.far ?_ NB128_132.out _) | exact HI128.out)) (by (with_reducible repeat (first | apply Kd.R_alloc | apply Kd.R_drewN | apply Kd.R_drew)); exact (Q_HO143 h0_)) (by decide)) hk (fun _ h => h.2)) (fun _ h => h.1)) (fun _ h_ => by first | trivial | exact h_ | exact h_.1))
                clear BK125
                clear BK132
                clear HB
                clear HI128
                have BK125 := n0_
                have BK132 := n1_
                have HB := n2_
                have HI128 := n3_
                clear n0_ n1_ n2_ n3_
                (try clear hb)
                (try clear hb2)
                (try clear hk)
                (try clear hi)
                refine hK.out _ _ ⟨v136, adz_v136, v142, adz_v142, m4_, m9_, (by rw [ha.out]; exact putSel_upk 2 hb_ rfl rfl rfl), fun _ => (by (with_reducible repeat (first | refine blk_drewN ?_ _ | refine blk_drew ?_ | refine blk_alloc ?_ _)); exact BK125.out), (by (with_reducible repeat (first | refine blk_drewN ?_ _ | refine blk_drew ?_ | refine blk_alloc ?_ _)); exact BK132.out), fun h0_ => absurd ((up_self b 3).symm.trans h0_) (by decide), (by repeat (first | (with_reducible first | exact HB.out | apply below_alloc | apply pw_below_drewN | apply below_drew1 | refine below_set ?_ (IsS71.ge HI128.out) | refine below_set ?_ GE125.out | refine below_set ?_ GE132.out) | exact HB.out)), z_HO137, Q_HA_HO137, fun _ _ => (by repeat (first | (with_reducible first | exact HI128.out | apply IsS71.alloc | apply IsS71.drewN | apply IsS71.drew | apply IsS71.set_1 | refine IsS71.far ?_ NB128_125.out _ | refine IsS71.far ?_ NB128_132.out _) | exact HI128.out)), z_HO143, Q_HA_HO143, fun h0_ => absurd ((hoff 8 (by kernel_rfl)).symm.trans h0_) (by decide), fun h0_ => absurd ((hoff 11 (by kernel_rfl)).symm.trans h0_) (by decide), fun h0_ => absurd ((hoff 4 (by kernel_rfl)).symm.trans h0_) (by decide), fun h0_ => absurd ((hoff 9 (by kernel_rfl)).symm.trans h0_) (by decide)⟩
              refine steps_cons ?_ ?_
              · rintro b a w' ⟨v136, adz_v136, v142, adz_v142, m4_, m9_, ha, Q_BK125, Q_BK132, Q_HI128, Q_HB, Q_HO137, Q_HA_HO137, Q_HI128_e3, Q_HO143, Q_HA_HO143, Q_HI128_e8, Q_BK125_e11, Q_X4_, Q_X9_⟩ hb_ hon hoff
                refine ⟨_, rfl, fun K hK => ?_⟩
                have e16 : a.tmps[16]? = some (v136) := by rw [ha]; exact putSel_on (e := (1, 16, v136)) 1 rfl rfl (hon 1 (by kernel_rfl)) rfl
                have e18 : a.tmps[18]? = some (.int .i64 t138) := by rw [ha]; exact putSel_on (e := (3, 18, .int .i64 t138)) 2 rfl rfl (hon 3 (by kernel_rfl)) rfl
                replace ha := Aside0.mk ha
                have BK132 := Aside0.mk Q_BK132
                have HB := Aside0.mk Q_HB
                have HO137 := Aside0.mk (Q_HO137 (hon 1 (by kernel_rfl)))
                have HA_HO137 := Aside0.mk (Q_HA_HO137 (hon 1 (by kernel_rfl)))
                obtain ⟨c_, hv_⟩ := HA_HO137.out
                rw [hv_] at e16
                refine value_ (w1 := w') (v := .pointer (some (adz_v136.add (t138).toNat))) (by rfl) rfl ?_ ?_
                · go_simp
                  (try simp only [i64_w])
                  try rfl
                refine hK.out _ _ ⟨v136, adz_v136, v142, adz_v142, (.pointer (some (adz_v136.add (t138).toNat))), m9_, (by rw [ha.out]; exact putSel_upk 3 hb_ rfl rfl rfl), Q_BK125, Q_BK132, fun h0_ => absurd ((hon 3 (by kernel_rfl)).symm.trans h0_) (by decide), Q_HB, Q_HO137, Q_HA_HO137, Q_HI128_e3, Q_HO143, Q_HA_HO143, Q_HI128_e8, Q_BK125_e11, fun _ => rfl, Q_X9_⟩
              refine steps_cons ?_ ?_
              · rintro b a w' ⟨v136, adz_v136, v142, adz_v142, m4_, m9_, ha, Q_BK125, Q_BK132, Q_HI128, Q_HB, Q_HO137, Q_HA_HO137, Q_HI128_e3, Q_HO143, Q_HA_HO143, Q_HI128_e8, Q_BK125_e11, Q_X4_, Q_X9_⟩ hb_ hon hoff
                refine ⟨_, rfl, fun K hK => ?_⟩
                have e19 : a.tmps[19]? = some (m4_) := by rw [ha]; exact putSel_on (e := (4, 19, m4_)) 3 rfl rfl (hon 4 (by kernel_rfl)) rfl
                rw [Q_X4_ (hon 4 (by kernel_rfl))] at e19
                replace ha := Aside0.mk ha
                have BK132 := Aside0.mk Q_BK132
                have HB := Aside0.mk Q_HB
                have HO137 := Aside0.mk (Q_HO137 (hon 1 (by kernel_rfl)))
                have HA_HO137 := Aside0.mk (Q_HA_HO137 (hon 1 (by kernel_rfl)))
                obtain ⟨c_, hv_⟩ := HA_HO137.out
                have hF_ := HO137.out
                rw [hv_] at hF_
                obtain ⟨ad_, ea_, hx_⟩ := Kd.at_int (Kd.R_reads' hF_).2.2 t138 (of_eq_true pi140) (of_eq_true qi140)
                cases ea_
                refine value_ (w1 := w') (v := .int .i64 (rd y135 t138)) (by rfl) rfl ?_ ?_
                · go_simp
                  (try simp only [i64_w])
                  try rfl
                refine hK.out _ _ ⟨v136, adz_v136, v142, adz_v142, m4_, m9_, (by rw [ha.out]; exact putSel_upk 4 hb_ rfl rfl rfl), Q_BK125, Q_BK132, fun h0_ => absurd ((hon 3 (by kernel_rfl)).symm.trans h0_) (by decide), Q_HB, Q_HO137, Q_HA_HO137, Q_HI128_e3, Q_HO143, Q_HA_HO143, Q_HI128_e8, Q_BK125_e11, Q_X4_, Q_X9_⟩
              refine steps_cons ?_ ?_
              · rintro b a w' ⟨v136, adz_v136, v142, adz_v142, m4_, m9_, ha, Q_BK125, Q_BK132, Q_HI128, Q_HB, Q_HO137, Q_HA_HO137, Q_HI128_e3, Q_HO143, Q_HA_HO143, Q_HI128_e8, Q_BK125_e11, Q_X4_, Q_X9_⟩ hb_ hon hoff
                refine ⟨_, rfl, fun K hK => ?_⟩
                replace ha := Aside0.mk ha
                have BK132 := Aside0.mk Q_BK132
                have HB := Aside0.mk Q_HB
                refine Kd.R_lit_step (Kd.int .i64) _ 3 ?hg (N := 21) ?hd (xs := ([0, 1, 999, 1000] : List Int)) (inner := [.int .i64 0, .int .i64 1, .int .i64 999, .int .i64 1000]) (ok := fun _ => True) (okp := fun _ => True) ?hr ?hp (fun _ hk => hk) trivial (Below.refl _ _) (Nat.le_refl _) (by simp) ?_; (case hd => rfl); (case hg => rfl); (case hr => first | (go_simp; done) | (go_simp; rfl)); (case hp => exact (Reps.one (show Kd.M (Kd.int .i64) _ _ _ 0 [.int .i64 0] from rfl) (Reps.one (show Kd.M (Kd.int .i64) _ _ _ 1 [.int .i64 1] from rfl) (Reps.one (show Kd.M (Kd.int .i64) _ _ _ 999 [.int .i64 999] from rfl) (Reps.one (show Kd.M (Kd.int .i64) _ _ _ 1000 [.int .i64 1000] from rfl) (Reps.none _ _))))))
                intro v142 w21 ho22 hb hg_ hnew_
                clear hg_ hnew_
                (first | rw [← Ny141.out] at ho22 | (simp only [Int.reduceToNat] at ho22; rw [← Ny141.out] at ho22))
                have n0_ := Aside0.mk (Kd.R_lower ho22 (below_size (by repeat (first | (with_reducible first | exact HB.out | apply below_alloc | apply pw_below_drewN | apply below_drew1 | refine below_set ?_ GE125.out | refine below_set ?_ GE132.out) | exact HB.out))))
                have n3_ := Aside0.mk (blk_below (g := gb132) (o := .cells #[.int .i64 t129, .int .i64 t130] 29 (0, 0)) (by (with_reducible repeat (first | refine blk_drewN ?_ _ | refine blk_drew ?_ | refine blk_alloc ?_ _)); exact BK132.out) hb)
                have n4_ := Aside0.mk (below_step (by repeat (first | (with_reducible first | exact HB.out | apply below_alloc | apply pw_below_drewN | apply below_drew1 | refine below_set ?_ GE125.out | refine below_set ?_ GE132.out) | exact HB.out)) hb)
                have z_BK125 := fun (h0_ : b 11 = false) => (show w21.heap[gb125]? = some (.cells #[.int .i64 0, .int .i64 0] 29 (0, 0)) from by first | exact (blk_below (g := gb125) (o := .cells #[.int .i64 0, .int .i64 0] 29 (0, 0)) (by (with_reducible repeat (first | refine blk_drewN ?_ _ | refine blk_drew ?_ | refine blk_alloc ?_ _)); exact (Q_BK125 h0_)) hb))
                have z_HI128 := fun (h0_ : b 3 = false) => (show IsS71 w w21 g128 t126 t134 from by first | exact (IsS71.below (by repeat (first | (with_reducible first | exact (Q_HI128 h0_) | apply IsS71.alloc | apply IsS71.drewN | apply IsS71.drew | apply IsS71.set_1 | refine IsS71.far ?_ NB128_125.out _ | refine IsS71.far ?_ NB128_132.out _) | exact (Q_HI128 h0_))) hb))
                have z_HO137 := fun (h0_ : b 1 = true) => (show Kd.R (Kd.int .i64) 3 w21 w.heap.size (fun _ => True) v136 y135 from by first | exact (Kd.R_elder' (by (with_reducible repeat (first | apply Kd.R_alloc | apply Kd.R_drewN | apply Kd.R_drew)); exact (Q_HO137 h0_)) (Kd.R_base ho22) hb) | exact Kd.R_mono (Kd.R_elder' (by (with_reducible repeat (first | apply Kd.R_alloc | apply Kd.R_drewN | apply Kd.R_drew)); exact (Q_HO137 h0_)) (Kd.R_base ho22) hb) (fun _ h_ => by first | trivial | exact h_ | exact h_.1))
                have z_HI128_e3 := fun (h0_ : b 3 = true) (h1_ : b 8 = false) => (show IsS71 w w21 g128 t126 t139 from by first | exact (IsS71.below (by repeat (first | (with_reducible first | exact (Q_HI128_e3 h0_ h1_) | apply IsS71.alloc | apply IsS71.drewN | apply IsS71.drew | apply IsS71.set_1 | refine IsS71.far ?_ NB128_125.out _ | refine IsS71.far ?_ NB128_132.out _) | exact (Q_HI128_e3 h0_ h1_))) hb))
                have z_HI128_e8 := fun (h0_ : b 8 = true) => (show IsS71 w w21 g128 t126 t145 from by first | exact (IsS71.below (by repeat (first | (with_reducible first | exact (Q_HI128_e8 h0_) | apply IsS71.alloc | apply IsS71.drewN | apply IsS71.drew | apply IsS71.set_1 | refine IsS71.far ?_ NB128_125.out _ | refine IsS71.far ?_ NB128_132.out _) | exact (Q_HI128_e8 h0_))) hb))
                have z_BK125_e11 := fun (h0_ : b 11 = true) => (show w21.heap[gb125]? = some (.cells #[.int .i64 t129, .int .i64 t130] 29 (0, 0)) from by first | exact (blk_below (g := gb125) (o := .cells #[.int .i64 t129, .int .i64 t130] 29 (0, 0)) (by (with_reducible repeat (first | refine blk_drewN ?_ _ | refine blk_drew ?_ | refine blk_alloc ?_ _)); exact (Q_BK125_e11 h0_)) hb))
                clear BK132
                clear HB
                have HO143 := n0_
                have BK132 := n3_
                have HB := n4_
                clear n0_ n3_ n4_
                clear hb ho22
                obtain ⟨Ao23, co23, eo23⟩ := Kd.R_slice HO143.out
                subst eo23
                obtain ⟨ado23, fo23, _⟩ := Kd.at_int (Kd.R_reads' HO143.out).2.2 0 (by decide) (by rw [Ny141.out]; simp)
                cases fo23
                refine hK.out _ _ ⟨v136, adz_v136, .slice (some ado23) y141.length co23, ado23, m4_, m9_, (by rw [ha.out]; exact putSel_upk 5 hb_ rfl rfl rfl), z_BK125, (by (with_reducible repeat (first | refine blk_drewN ?_ _ | refine blk_drew ?_ | refine blk_alloc ?_ _)); exact BK132.out), z_HI128, (by repeat (first | (with_reducible first | exact HB.out | apply below_alloc | apply pw_below_drewN | apply below_drew1 | refine below_set ?_ GE125.out | refine below_set ?_ GE132.out) | exact HB.out)), z_HO137, Q_HA_HO137, z_HI128_e3, fun _ => (by (with_reducible repeat (first | apply Kd.R_alloc | apply Kd.R_drewN | apply Kd.R_drew)); exact HO143.out), fun _ => ⟨_, rfl⟩, z_HI128_e8, z_BK125_e11, Q_X4_, fun h0_ => absurd ((hoff 9 (by kernel_rfl)).symm.trans h0_) (by decide)⟩
              refine steps_cons ?_ ?_
              · rintro b a w' ⟨v136, adz_v136, v142, adz_v142, m4_, m9_, ha, Q_BK125, Q_BK132, Q_HI128, Q_HB, Q_HO137, Q_HA_HO137, Q_HI128_e3, Q_HO143, Q_HA_HO143, Q_HI128_e8, Q_BK125_e11, Q_X4_, Q_X9_⟩ hb_ hon hoff
                refine ⟨_, rfl, fun K hK => ?_⟩
                have e22 : a.tmps[22]? = some (.pointer (some ⟨g128, 0, none⟩)) := by rw [ha]; exact (putSel_off rfl).trans rfl
                replace ha := Aside0.mk ha
                have BK125 := Aside0.mk (Q_BK125 (hoff 11 (by kernel_rfl)))
                have BK132 := Aside0.mk Q_BK132
                have HB := Aside0.mk Q_HB
                have HI128 := Aside0.mk (Q_HI128_e3 (hon 3 (by kernel_rfl)) hb_)
                refine goes_ Try.func49 (by kernel_rfl) rfl #[.pointer (some ⟨g128, 0, none⟩), .int .i64 4] (by rfl) rfl rfl (by first | (simp only [List.map_toArray, List.map_cons, List.map_nil, Act.eval, Array.getD_eq_getD_getElem?, Option.getD_some, e22]; done) | (simp only [List.map_toArray, List.map_cons, List.map_nil, Act.eval, Array.getD_eq_getD_getElem?, Option.getD_some, e22]; rfl)) ?_
                with_reducible refine (spec_l6Rd_pick.calls k g128 t126 t139 4 t144 t145 w _ ?side1 ?side2 A9.out).mono ?_
                (case side1 => repeat (first | (with_reducible first | exact HI128.out | apply IsS71.alloc | apply IsS71.drewN | apply IsS71.drew | apply IsS71.set_1 | refine IsS71.far ?_ NB128_125.out _ | refine IsS71.far ?_ NB128_132.out _) | exact HI128.out))
                (case side2 => repeat (first | (with_reducible first | exact HB.out | apply below_alloc | apply pw_below_drewN | apply below_drew1 | refine below_set ?_ (IsS71.ge HI128.out) | refine below_set ?_ GE125.out | refine below_set ?_ GE132.out) | exact HB.out))
                rintro e w23 ⟨rfl, hi, hb, hk⟩
                refine ⟨_, rfl, ?_⟩
                have n0_ := Aside0.mk (KeepBut.blk hk (g' := gb125) (o := .cells #[.int .i64 0, .int .i64 0] 29 (0, 0)) (by (with_reducible repeat (first | refine blk_drewN ?_ _ | refine blk_drew ?_ | refine blk_alloc ?_ _)); exact BK125.out) NB125_128.out (by simp))
                have n1_ := Aside0.mk (KeepBut.blk hk (g' := gb132) (o := .cells #[.int .i64 t129, .int .i64 t130] 29 (0, 0)) (by (with_reducible repeat (first | refine blk_drewN ?_ _ | refine blk_drew ?_ | refine blk_alloc ?_ _)); exact BK132.out) NB132_128.out (by simp))
                have n2_ := Aside0.mk (hb)
                have n3_ := Aside0.mk (hi)
                have z_HO137 := fun (h0_ : b 1 = true) => (show Kd.R (Kd.int .i64) 3 w23 w.heap.size (fun _ => True) v136 y135 from by first | exact (Kd.R_mono (Kd.R_keep (IsS71.apart (show IsS71 w _ g128 t126 t139 from by repeat (first | (with_reducible first | exact HI128.out | apply IsS71.alloc | apply IsS71.drewN | apply IsS71.drew | apply IsS71.set_1 | refine IsS71.far ?_ NB128_125.out _ | refine IsS71.far ?_ NB128_132.out _) | exact HI128.out)) (by (with_reducible repeat (first | apply Kd.R_alloc | apply Kd.R_drewN | apply Kd.R_drew)); exact (Q_HO137 h0_)) (by decide)) hk (fun _ h => h.2)) (fun _ h => h.1)) | exact Kd.R_mono (Kd.R_mono (Kd.R_keep (IsS71.apart (show IsS71 w _ g128 t126 t139 from by repeat (first | (with_reducible first | exact HI128.out | apply IsS71.alloc | apply IsS71.drewN | apply IsS71.drew | apply IsS71.set_1 | refine IsS71.far ?_ NB128_125.out _ | refine IsS71.far ?_ NB128_132.out _) | exact HI128.out)) (by (with_reducible repeat (first | apply Kd.R_alloc | apply Kd.R_drewN | apply Kd.R_drew)); exact (Q_HO137 h0_)) (by decide)) hk (fun _ h => h.2)) (fun _ h => h.1)) (fun _ h_ => by first | trivial | exact h_ | exact h_.1))
                have z_HO143 := fun (h0_ : b 6 = true) => (show Kd.R (Kd.int .i64) 3 w23 w.heap.size (fun _ => True) v142 y141 from by first | exact (Kd.R_mono (Kd.R_keep (IsS71.apart (show IsS71 w _ g128 t126 t139 from by repeat (first | (with_reducible first | exact HI128.out | apply IsS71.alloc | apply IsS71.drewN | apply IsS71.drew | apply IsS71.set_1 | refine IsS71.far ?_ NB128_125.out _ | refine IsS71.far ?_ NB128_132.out _) | exact HI128.out)) (by (with_reducible repeat (first | apply Kd.R_alloc | apply Kd.R_drewN | apply Kd.R_drew)); exact (Q_HO143 h0_)) (by decide)) hk (fun _ h => h.2)) (fun _ h => h.1)) | exact Kd.R_mono (Kd.R_mono (Kd.R_keep (IsS71.apart (show IsS71 w _ g128 t126 t139 from by repeat (first | (with_reducible first | exact HI128.out | apply IsS71.alloc | apply IsS71.drewN | apply IsS71.drew | apply IsS71.set_1 | refine IsS71.far ?_ NB128_125.out _ | refine IsS71.far ?_ NB128_132.out _) | exact HI128.out)) (by (with_reducible repeat (first | apply Kd.R_alloc | apply Kd.R_drewN | apply Kd.R_drew)); exact (Q_HO143 h0_)) (by decide)) hk (fun _ h => h.2)) (fun _ h => h.1)) (fun _ h_ => by first | trivial | exact h_ | exact h_.1))
                clear BK125
                clear BK132
                clear HB
                clear HI128
                have BK125 := n0_
                have BK132 := n1_
                have HB := n2_
                have HI128 := n3_
                clear n0_ n1_ n2_ n3_
                (try clear hb)
                (try clear hb2)
                (try clear hk)
                (try clear hi)
                refine hK.out _ _ ⟨v136, adz_v136, v142, adz_v142, m4_, m9_, (by rw [ha.out]; exact putSel_upk 6 hb_ rfl rfl rfl), fun _ => (by (with_reducible repeat (first | refine blk_drewN ?_ _ | refine blk_drew ?_ | refine blk_alloc ?_ _)); exact BK125.out), (by (with_reducible repeat (first | refine blk_drewN ?_ _ | refine blk_drew ?_ | refine blk_alloc ?_ _)); exact BK132.out), fun h0_ => absurd ((hon 3 (by kernel_rfl)).symm.trans h0_) (by decide), (by repeat (first | (with_reducible first | exact HB.out | apply below_alloc | apply pw_below_drewN | apply below_drew1 | refine below_set ?_ (IsS71.ge HI128.out) | refine below_set ?_ GE125.out | refine below_set ?_ GE132.out) | exact HB.out)), z_HO137, Q_HA_HO137, fun _ h1_ => absurd ((up_self b 8).symm.trans h1_) (by decide), z_HO143, Q_HA_HO143, fun _ => (by repeat (first | (with_reducible first | exact HI128.out | apply IsS71.alloc | apply IsS71.drewN | apply IsS71.drew | apply IsS71.set_1 | refine IsS71.far ?_ NB128_125.out _ | refine IsS71.far ?_ NB128_132.out _) | exact HI128.out)), fun h0_ => absurd ((hoff 11 (by kernel_rfl)).symm.trans h0_) (by decide), Q_X4_, fun h0_ => absurd ((hoff 9 (by kernel_rfl)).symm.trans h0_) (by decide)⟩
              refine steps_cons ?_ ?_
              · rintro b a w' ⟨v136, adz_v136, v142, adz_v142, m4_, m9_, ha, Q_BK125, Q_BK132, Q_HI128, Q_HB, Q_HO137, Q_HA_HO137, Q_HI128_e3, Q_HO143, Q_HA_HO143, Q_HI128_e8, Q_BK125_e11, Q_X4_, Q_X9_⟩ hb_ hon hoff
                refine ⟨_, rfl, fun K hK => ?_⟩
                have e21 : a.tmps[21]? = some (v142) := by rw [ha]; exact putSel_on (e := (6, 21, v142)) 5 rfl rfl (hon 6 (by kernel_rfl)) rfl
                have e23 : a.tmps[23]? = some (.int .i64 t144) := by rw [ha]; exact putSel_on (e := (8, 23, .int .i64 t144)) 6 rfl rfl (hon 8 (by kernel_rfl)) rfl
                replace ha := Aside0.mk ha
                have BK132 := Aside0.mk Q_BK132
                have HB := Aside0.mk Q_HB
                have HO143 := Aside0.mk (Q_HO143 (hon 6 (by kernel_rfl)))
                have HA_HO143 := Aside0.mk (Q_HA_HO143 (hon 6 (by kernel_rfl)))
                have HI128 := Aside0.mk (Q_HI128_e8 (hon 8 (by kernel_rfl)))
                obtain ⟨c_, hv_⟩ := HA_HO143.out
                rw [hv_] at e21
                refine value_ (w1 := w') (v := .pointer (some (adz_v142.add (t144).toNat))) (by rfl) rfl ?_ ?_
                · go_simp
                  (try simp only [i64_w])
                  try rfl
                refine hK.out _ _ ⟨v136, adz_v136, v142, adz_v142, m4_, (.pointer (some (adz_v142.add (t144).toNat))), (by rw [ha.out]; exact putSel_upk 7 hb_ rfl rfl rfl), Q_BK125, Q_BK132, fun h0_ => absurd ((hon 3 (by kernel_rfl)).symm.trans h0_) (by decide), Q_HB, Q_HO137, Q_HA_HO137, fun _ h1_ => absurd ((hon 8 (by kernel_rfl)).symm.trans h1_) (by decide), Q_HO143, Q_HA_HO143, Q_HI128_e8, Q_BK125_e11, Q_X4_, fun _ => rfl⟩
              refine steps_cons ?_ ?_
              · rintro b a w' ⟨v136, adz_v136, v142, adz_v142, m4_, m9_, ha, Q_BK125, Q_BK132, Q_HI128, Q_HB, Q_HO137, Q_HA_HO137, Q_HI128_e3, Q_HO143, Q_HA_HO143, Q_HI128_e8, Q_BK125_e11, Q_X4_, Q_X9_⟩ hb_ hon hoff
                refine ⟨_, rfl, fun K hK => ?_⟩
                have e24 : a.tmps[24]? = some (m9_) := by rw [ha]; exact putSel_on (e := (9, 24, m9_)) 7 rfl rfl (hon 9 (by kernel_rfl)) rfl
                rw [Q_X9_ (hon 9 (by kernel_rfl))] at e24
                replace ha := Aside0.mk ha
                have BK132 := Aside0.mk Q_BK132
                have HB := Aside0.mk Q_HB
                have HO143 := Aside0.mk (Q_HO143 (hon 6 (by kernel_rfl)))
                have HA_HO143 := Aside0.mk (Q_HA_HO143 (hon 6 (by kernel_rfl)))
                have HI128 := Aside0.mk (Q_HI128_e8 (hon 8 (by kernel_rfl)))
                obtain ⟨c_, hv_⟩ := HA_HO143.out
                have hF_ := HO143.out
                rw [hv_] at hF_
                obtain ⟨ad_, ea_, hx_⟩ := Kd.at_int (Kd.R_reads' hF_).2.2 t144 (of_eq_true pi146) (of_eq_true qi146)
                cases ea_
                refine value_ (w1 := w') (v := .int .i64 (rd y141 t144)) (by rfl) rfl ?_ ?_
                · go_simp
                  (try simp only [i64_w])
                  try rfl
                refine hK.out _ _ ⟨v136, adz_v136, v142, adz_v142, m4_, m9_, (by rw [ha.out]; exact putSel_upk 8 hb_ rfl rfl rfl), Q_BK125, Q_BK132, fun h0_ => absurd ((hon 3 (by kernel_rfl)).symm.trans h0_) (by decide), Q_HB, Q_HO137, Q_HA_HO137, fun _ h1_ => absurd ((hon 8 (by kernel_rfl)).symm.trans h1_) (by decide), Q_HO143, Q_HA_HO143, Q_HI128_e8, Q_BK125_e11, Q_X4_, Q_X9_⟩
              refine steps_cons ?_ ?_
              · rintro b a w' ⟨v136, adz_v136, v142, adz_v142, m4_, m9_, ha, Q_BK125, Q_BK132, Q_HI128, Q_HB, Q_HO137, Q_HA_HO137, Q_HI128_e3, Q_HO143, Q_HA_HO143, Q_HI128_e8, Q_BK125_e11, Q_X4_, Q_X9_⟩ hb_ hon hoff
                refine ⟨_, rfl, fun K hK => ?_⟩
                have e2 : a.tmps[2]? = some (.pointer (some ⟨gb125, 0, none⟩)) := by rw [ha]; exact (putSel_off rfl).trans rfl
                have e15 : a.tmps[15]? = some (.agg #[.int .i64 t129, .int .i64 t130]) := by rw [ha]; exact putSel_on (e := (0, 15, .agg #[.int .i64 t129, .int .i64 t130])) 0 rfl rfl (hon 0 (by kernel_rfl)) rfl
                replace ha := Aside0.mk ha
                have BK125 := Aside0.mk (Q_BK125 hb_)
                have BK132 := Aside0.mk Q_BK132
                have HB := Aside0.mk Q_HB
                have HI128 := Aside0.mk (Q_HI128_e8 (hon 8 (by kernel_rfl)))
                have hs24 : w'.cell? ⟨gb125, 0, none⟩ = some (.int .i64 0) := (blk_cell BK125.out 0).trans rfl
                have hfs24 := blk_frozen BK125.out 0
                have hns24_1 := NB132_125.out
                have hms24_1 := NB125_132.out
                have hs25 : w'.cell? ⟨gb125, 1, none⟩ = some (.int .i64 0) := (blk_cell BK125.out 1).trans rfl
                have hfs25 := blk_frozen BK125.out 1
                have hns25_1 := NB132_125.out
                have hms25_1 := NB125_132.out
                refine skip_ (w1 := ?_) (by rfl) rfl ?_ ?_
                rotate_left
                · go_simp
                  rfl
                refine hK.out _ _ ⟨v136, adz_v136, v142, adz_v142, m4_, m9_, (by rw [ha.out]; exact putSel_none (v := undef) rfl), fun h0_ => absurd ((up_self b 11).symm.trans h0_) (by decide), (by (with_reducible repeat (first | refine blk_drewN ?_ _ | refine blk_drew ?_ | refine blk_alloc ?_ _)); refine blk_far ?_ NB132_125.out _; (with_reducible repeat (first | refine blk_drewN ?_ _ | refine blk_drew ?_ | refine blk_alloc ?_ _)); refine blk_far ?_ NB132_125.out _; (with_reducible repeat (first | refine blk_drewN ?_ _ | refine blk_drew ?_ | refine blk_alloc ?_ _)); exact BK132.out), fun h0_ => absurd ((hon 3 (by kernel_rfl)).symm.trans h0_) (by decide), (by repeat (first | (with_reducible first | exact HB.out | apply below_alloc | apply pw_below_drewN | apply below_drew1 | refine below_set ?_ (IsS71.ge HI128.out) | refine below_set ?_ GE125.out | refine below_set ?_ GE132.out) | exact HB.out)), fun h0_ => (by (with_reducible repeat (first | apply Kd.R_alloc | apply Kd.R_drewN | apply Kd.R_drew)); exact Kd.R_mono (Kd.R_far (p := ⟨gb125, 1, none⟩) (Kd.R_far (p := ⟨gb125, 0, none⟩) (Kd.R_types (Q_HO137 h0_) BK125.out (by decide)) (fun _ hk => hk.2) (.int .i64 t129)) (fun _ hk => hk.2) (.int .i64 t130)) (fun _ hk => trivial)), Q_HA_HO137, fun _ h1_ => absurd ((hon 8 (by kernel_rfl)).symm.trans h1_) (by decide), fun h0_ => (by (with_reducible repeat (first | apply Kd.R_alloc | apply Kd.R_drewN | apply Kd.R_drew)); exact Kd.R_mono (Kd.R_far (p := ⟨gb125, 1, none⟩) (Kd.R_far (p := ⟨gb125, 0, none⟩) (Kd.R_types (Q_HO143 h0_) BK125.out (by decide)) (fun _ hk => hk.2) (.int .i64 t129)) (fun _ hk => hk.2) (.int .i64 t130)) (fun _ hk => trivial)), Q_HA_HO143, fun _ => (by repeat (first | (with_reducible first | exact HI128.out | apply IsS71.alloc | apply IsS71.drewN | apply IsS71.drew | apply IsS71.set_1 | refine IsS71.far ?_ NB128_125.out _ | refine IsS71.far ?_ NB128_132.out _) | exact HI128.out)), fun _ => (by (with_reducible repeat (first | refine blk_drewN ?_ _ | refine blk_drew ?_ | refine blk_alloc ?_ _)); refine blk_put (cs := #[.int .i64 t129, .int .i64 0]) ?_ 1 _ rfl; (with_reducible repeat (first | refine blk_drewN ?_ _ | refine blk_drew ?_ | refine blk_alloc ?_ _)); refine blk_put (cs := #[.int .i64 0, .int .i64 0]) ?_ 0 _ rfl; (with_reducible repeat (first | refine blk_drewN ?_ _ | refine blk_drew ?_ | refine blk_alloc ?_ _)); exact BK125.out), Q_X4_, Q_X9_⟩
              refine steps_cons ?_ ?_
              · rintro b a w' ⟨v136, adz_v136, v142, adz_v142, m4_, m9_, ha, Q_BK125, Q_BK132, Q_HI128, Q_HB, Q_HO137, Q_HA_HO137, Q_HI128_e3, Q_HO143, Q_HA_HO143, Q_HI128_e8, Q_BK125_e11, Q_X4_, Q_X9_⟩ hb_ hon hoff
                refine ⟨_, rfl, fun K hK => ?_⟩
                have e20 : a.tmps[20]? = some (.int .i64 (rd y135 t138)) := by rw [ha]; exact putSel_on (e := (5, 20, .int .i64 (rd y135 t138))) 4 rfl rfl (hon 5 (by kernel_rfl)) rfl
                replace ha := Aside0.mk ha
                have BK132 := Aside0.mk Q_BK132
                have HB := Aside0.mk Q_HB
                have HO137 := Aside0.mk (Q_HO137 (hon 1 (by kernel_rfl)))
                have HA_HO137 := Aside0.mk (Q_HA_HO137 (hon 1 (by kernel_rfl)))
                have HI128 := Aside0.mk (Q_HI128_e8 (hon 8 (by kernel_rfl)))
                have BK125 := Aside0.mk (Q_BK125_e11 (hon 11 (by kernel_rfl)))
                refine value_ (w1 := w') (v := .int .i64 (rd y135 t138)) (by rfl) rfl ?_ ?_
                · go_simp
                  (try simp only [i64_w])
                  try rfl
                refine hK.out _ _ ⟨v136, adz_v136, v142, adz_v142, m4_, m9_, (by rw [ha.out]; exact putSel_upk 9 hb_ rfl rfl rfl), fun h0_ => absurd ((hon 11 (by kernel_rfl)).symm.trans h0_) (by decide), Q_BK132, fun h0_ => absurd ((hon 3 (by kernel_rfl)).symm.trans h0_) (by decide), Q_HB, Q_HO137, Q_HA_HO137, fun _ h1_ => absurd ((hon 8 (by kernel_rfl)).symm.trans h1_) (by decide), Q_HO143, Q_HA_HO143, Q_HI128_e8, Q_BK125_e11, Q_X4_, Q_X9_⟩
              refine steps_cons ?_ ?_
              · rintro b a w' ⟨v136, adz_v136, v142, adz_v142, m4_, m9_, ha, Q_BK125, Q_BK132, Q_HI128, Q_HB, Q_HO137, Q_HA_HO137, Q_HI128_e3, Q_HO143, Q_HA_HO143, Q_HI128_e8, Q_BK125_e11, Q_X4_, Q_X9_⟩ hb_ hon hoff
                refine ⟨_, rfl, fun K hK => ?_⟩
                have e25 : a.tmps[25]? = some (.int .i64 (rd y141 t144)) := by rw [ha]; exact putSel_on (e := (10, 25, .int .i64 (rd y141 t144))) 8 rfl rfl (hon 10 (by kernel_rfl)) rfl
                replace ha := Aside0.mk ha
                have BK132 := Aside0.mk Q_BK132
                have HB := Aside0.mk Q_HB
                have HO137 := Aside0.mk (Q_HO137 (hon 1 (by kernel_rfl)))
                have HA_HO137 := Aside0.mk (Q_HA_HO137 (hon 1 (by kernel_rfl)))
                have HO143 := Aside0.mk (Q_HO143 (hon 6 (by kernel_rfl)))
                have HA_HO143 := Aside0.mk (Q_HA_HO143 (hon 6 (by kernel_rfl)))
                have HI128 := Aside0.mk (Q_HI128_e8 (hon 8 (by kernel_rfl)))
                have BK125 := Aside0.mk (Q_BK125_e11 (hon 11 (by kernel_rfl)))
                refine value_ (w1 := w') (v := .int .i64 (rd y141 t144)) (by rfl) rfl ?_ ?_
                · go_simp
                  (try simp only [i64_w])
                  try rfl
                refine hK.out _ _ ⟨v136, adz_v136, v142, adz_v142, m4_, m9_, (by rw [ha.out]; exact putSel_upk 10 hb_ rfl rfl rfl), fun h0_ => absurd ((hon 11 (by kernel_rfl)).symm.trans h0_) (by decide), Q_BK132, fun h0_ => absurd ((hon 3 (by kernel_rfl)).symm.trans h0_) (by decide), Q_HB, Q_HO137, Q_HA_HO137, fun _ h1_ => absurd ((hon 8 (by kernel_rfl)).symm.trans h1_) (by decide), Q_HO143, Q_HA_HO143, Q_HI128_e8, Q_BK125_e11, Q_X4_, Q_X9_⟩
              exact steps_nil
            rintro b a w31 hall ⟨v136, adz_v136, v142, adz_v142, m4_, m9_, ha, Q_BK125, Q_BK132, Q_HI128, Q_HB, Q_HO137, Q_HA_HO137, Q_HI128_e3, Q_HO143, Q_HA_HO143, Q_HI128_e8, Q_BK125_e11, Q_X4_, Q_X9_⟩
            clear BK125 BK132 HB HI128
            have hb0_ := hall 0 (by kernel_rfl)
            have hb1_ := hall 1 (by kernel_rfl)
            have hb3_ := hall 3 (by kernel_rfl)
            have hb4_ := hall 4 (by kernel_rfl)
            have hb5_ := hall 5 (by kernel_rfl)
            have hb6_ := hall 6 (by kernel_rfl)
            have hb8_ := hall 8 (by kernel_rfl)
            have hb9_ := hall 9 (by kernel_rfl)
            have hb10_ := hall 10 (by kernel_rfl)
            have hb11_ := hall 11 (by kernel_rfl)
            have hb12_ := hall 12 (by kernel_rfl)
            have hb13_ := hall 13 (by kernel_rfl)
            subst ha
            obtain rfl := Q_X4_ hb4_
            obtain rfl := Q_X9_ hb9_
            simp only [putSel, hb0_, hb1_, hb3_, hb4_, hb5_, hb6_, hb8_, hb9_, hb10_, hb11_, hb12_, hb13_, if_true, Act.put, List.setIfInBounds_toArray, List.set_cons_zero, List.set_cons_succ]
            clear Q_BK125
            have BK132 := Aside0.mk Q_BK132
            clear Q_BK132
            clear Q_HI128
            have HB := Aside0.mk Q_HB
            clear Q_HB
            have HO137 := Aside0.mk (Q_HO137 hb1_)
            clear Q_HO137
            have HA_HO137 := Aside0.mk (Q_HA_HO137 hb1_)
            clear Q_HA_HO137
            clear Q_HI128_e3
            have HO143 := Aside0.mk (Q_HO143 hb6_)
            clear Q_HO143
            have HA_HO143 := Aside0.mk (Q_HA_HO143 hb6_)
            clear Q_HA_HO143
            have HI128 := Aside0.mk (Q_HI128_e8 hb8_)
            clear Q_HI128_e8
            have BK125 := Aside0.mk (Q_BK125_e11 hb11_)
            clear Q_BK125_e11
            clear hall hb0_ hb1_ hb3_ hb4_ hb5_ hb6_ hb8_ hb9_ hb10_ hb11_ hb12_ hb13_
            obtain ⟨co32, eo32⟩ := HA_HO137.out
            clear HA_HO137
            subst eo32
            obtain ⟨co33, eo33⟩ := HA_HO143.out
            clear HA_HO143
            subst eo33
            try go_wp2
            refine bodyPost_ret (results_ctt rfl _ _ gb125 29 #[.int .i64 t129, .int .i64 t130] (0, 0) _ rfl (by (with_reducible repeat (first | refine blk_drewN ?_ _ | refine blk_drew ?_ | refine blk_alloc ?_ _)); exact BK125.out) Try.underlying29 rfl (by kernel_rfl)) rfl ?_
            exact ⟨by first | rfl | (simp [errW_none, errW_some] <;> rfl) | (simp [*, errW_none, errW_some] <;> rfl), by repeat (first | (with_reducible first | exact HB.out | apply below_alloc | apply pw_below_drewN | apply below_drew1 | refine below_set ?_ (IsS71.ge HI128.out) | refine below_set ?_ GE125.out | refine below_set ?_ GE132.out) | exact HB.out)⟩
          · rw [if_neg c11] at H
            exact absurd H (by simp)
        · rw [if_neg c10] at H
          exact absurd H (by simp)
      · rw [if_neg c8] at H
        exact absurd H (by simp)
    · rw [if_neg c7] at H
      exact absurd H (by simp)
  · rw [if_neg c5] at H
    have c5b0 : (t133 == 0) = false := beq_eq_false_iff_ne.mpr c5
    have c5b1 : (t133 != 0) = true := bne_iff_ne.mpr c5
    replace H := Option.bind_eq_some_iff.mp H
    obtain ⟨⟨t147, t148⟩, A340, H⟩ := H
    replace H : ((spec_l6Rd_pick.f k t126 t148 30).bind fun bt149 => (some (t129, t130, t147, wrap64 (1 + bt149.1)))) = some (r1, r2, r3, r4) := H
    have A34 := Aside0.mk A340
    clear A340
    replace H := Option.bind_eq_some_iff.mp H
    obtain ⟨⟨t149, t150⟩, A350, H⟩ := H
    replace H : (some (t129, t130, t147, wrap64 (1 + t149))) = some (r1, r2, r3, r4) := H
    have A35 := Aside0.mk A350
    clear A350
    simp only [Option.some.injEq, Prod.mk.injEq] at H
    obtain ⟨rfl, rfl, rfl, rfl⟩ := H
    go_enter Try.func39, Try.ntmps39
    try go_wp2_with (first | ((with_reducible refine gate_dst (N := 2) rfl ?_); refine box_event ?hg (N := 2) ?hd (cs := #[.int .i64 0, .int .i64 0]) (t := 29) ?hr ?_; (case hd => rfl); (case hg => rfl); (case hr => first | (go_simp; done) | (go_simp; rfl)); intro gb125 hg w36 hbox hb; have n0_ := Aside0.mk (below_step (by repeat (first | (with_reducible first | exact HB.out | apply below_alloc | apply pw_below_drewN | apply below_drew1) | exact HB.out)) hb); have n1_ := Aside0.mk (hbox); have n2_ := Aside0.mk ((by rw [hg]; exact (below_size (by repeat (first | (with_reducible first | exact HB.out | apply below_alloc | apply pw_below_drewN | apply below_drew1) | exact HB.out))) : w.heap.size ≤ gb125)); have n3_ := Aside0.mk ((by rw [hg]; exact (below_size (by repeat (first | (with_reducible first | exact HB.out | apply below_alloc | apply pw_below_drewN | apply below_drew1) | exact HB.out))) : w.heap.size ≤ gb125)); clear HB; have HB := n0_; have BK125 := n1_; have GW125 := n2_; have GE125 := n3_; clear n0_ n1_ n2_ n3_; clear hb hbox hg) | ((with_reducible refine gate_callee (f := 47) rfl ?_); refine goesL_ (some 9) rfl rfl Try.func47 (by kernel_rfl) rfl #[.slice A0 l0.length c0] rfl (by (try simp only [List.map_toArray, List.map_cons, List.map_nil]); first | done | rfl | (simp only [List.length_drop, List.length_take]; rfl)) ?_; (with_reducible refine (spec_l6Open.calls _ _ l0 t126 t127 w _ ?side1 ?side2 ?side3 A2.out).mono ?_); (case side1 => repeat (first | (with_reducible first | exact HB.out | apply below_alloc | apply pw_below_drewN | apply below_drew1 | refine below_set ?_ GE125.out) | exact HB.out)); (case side2 => exact HR0.out); (case side3 => exact HC0.out); rintro e w37 ⟨g128, rfl, hi, hb, hb2⟩; refine ⟨_, rfl, ?_⟩; have n0_ := Aside0.mk (blk_below (g := gb125) (o := .cells #[.int .i64 0, .int .i64 0] 29 (0, 0)) (by (with_reducible repeat (first | refine blk_drewN ?_ _ | refine blk_drew ?_ | refine blk_alloc ?_ _)); exact BK125.out) hb2); have n1_ := Aside0.mk (hb); have n2_ := Aside0.mk (hi); have n3_ := Aside0.mk (IsS71.ne_blk hi (blk_below (g := gb125) (o := .cells #[.int .i64 0, .int .i64 0] 29 (0, 0)) (by (with_reducible repeat (first | refine blk_drewN ?_ _ | refine blk_drew ?_ | refine blk_alloc ?_ _)); exact BK125.out) hb2) (by decide)); have n4_ := Aside0.mk (Ne.symm (IsS71.ne_blk hi (blk_below (g := gb125) (o := .cells #[.int .i64 0, .int .i64 0] 29 (0, 0)) (by (with_reducible repeat (first | refine blk_drewN ?_ _ | refine blk_drew ?_ | refine blk_alloc ?_ _)); exact BK125.out) hb2) (by decide))); clear BK125; clear HB; have BK125 := n0_; have HB := n1_; have HI128 := n2_; have NB128_125 := n3_; have NB125_128 := n4_; clear n0_ n1_ n2_ n3_ n4_; (try clear hb); (try clear hb2); (try clear hk); (try clear hi)) | ((with_reducible refine gate_callee (f := 48) rfl ?_); refine goesL_ (some 11) rfl rfl Try.func48 (by kernel_rfl) rfl #[.pointer (some ⟨g128, 0, none⟩)] rfl (by (try simp only [List.map_toArray, List.map_cons, List.map_nil]); first | done | rfl | (simp only [List.length_drop, List.length_take]; rfl)) ?_; (with_reducible refine (spec_l91Amount.calls k g128 t126 t127 t129 t130 t131 w _ ?side1 ?side2 A3.out).mono ?_); (case side1 => repeat (first | (with_reducible first | exact HI128.out | apply IsS71.alloc | apply IsS71.drewN | apply IsS71.drew | apply IsS71.set_1 | refine IsS71.far ?_ NB128_125.out _) | exact HI128.out)); (case side2 => repeat (first | (with_reducible first | exact HB.out | apply below_alloc | apply pw_below_drewN | apply below_drew1 | refine below_set ?_ (IsS71.ge HI128.out) | refine below_set ?_ GE125.out) | exact HB.out)); rintro e w38 ⟨rfl, hi, hb, hk⟩; refine ⟨_, rfl, ?_⟩; have n0_ := Aside0.mk (KeepBut.blk hk (g' := gb125) (o := .cells #[.int .i64 0, .int .i64 0] 29 (0, 0)) (by (with_reducible repeat (first | refine blk_drewN ?_ _ | refine blk_drew ?_ | refine blk_alloc ?_ _)); exact BK125.out) NB125_128.out (by simp)); have n1_ := Aside0.mk (hb); have n2_ := Aside0.mk (hi); clear BK125; clear HB; clear HI128; have BK125 := n0_; have HB := n1_; have HI128 := n2_; clear n0_ n1_ n2_; (try clear hb); (try clear hb2); (try clear hk); (try clear hi)) | ((with_reducible refine gate_dst (N := 6) rfl ?_); refine box_event ?hg (N := 6) ?hd (cs := #[.int .i64 0, .int .i64 0]) (t := 29) ?hr ?_; (case hd => rfl); (case hg => rfl); (case hr => first | (go_simp; done) | (go_simp; rfl)); intro gb132 hg w39 hbox hb; have n0_ := Aside0.mk (blk_below (g := gb125) (o := .cells #[.int .i64 0, .int .i64 0] 29 (0, 0)) (by (with_reducible repeat (first | refine blk_drewN ?_ _ | refine blk_drew ?_ | refine blk_alloc ?_ _)); exact BK125.out) hb); have n1_ := Aside0.mk (IsS71.below (by repeat (first | (with_reducible first | exact HI128.out | apply IsS71.alloc | apply IsS71.drewN | apply IsS71.drew | apply IsS71.set_1 | refine IsS71.far ?_ NB128_125.out _) | exact HI128.out)) hb); have n2_ := Aside0.mk (below_step (by repeat (first | (with_reducible first | exact HB.out | apply below_alloc | apply pw_below_drewN | apply below_drew1 | refine below_set ?_ (IsS71.ge HI128.out) | refine below_set ?_ GE125.out) | exact HB.out)) hb); have n3_ := Aside0.mk (hbox); have n4_ := Aside0.mk ((by rw [hg]; exact (below_size (by repeat (first | (with_reducible first | exact HB.out | apply below_alloc | apply pw_below_drewN | apply below_drew1 | refine below_set ?_ (IsS71.ge HI128.out) | refine below_set ?_ GE125.out) | exact HB.out))) : w.heap.size ≤ gb132)); have n5_ := Aside0.mk ((by rw [hg]; exact (below_size (by repeat (first | (with_reducible first | exact HB.out | apply below_alloc | apply pw_below_drewN | apply below_drew1 | refine below_set ?_ (IsS71.ge HI128.out) | refine below_set ?_ GE125.out) | exact HB.out))) : w.heap.size ≤ gb132)); have n6_ := Aside0.mk ((by rw [hg]; exact Nat.ne_of_lt (blk_lt (g := gb125) (o := .cells #[.int .i64 0, .int .i64 0] 29 (0, 0)) (by (with_reducible repeat (first | refine blk_drewN ?_ _ | refine blk_drew ?_ | refine blk_alloc ?_ _)); exact BK125.out)) : gb125 ≠ gb132)); have n7_ := Aside0.mk ((by rw [hg]; exact Nat.ne_of_gt (blk_lt (g := gb125) (o := .cells #[.int .i64 0, .int .i64 0] 29 (0, 0)) (by (with_reducible repeat (first | refine blk_drewN ?_ _ | refine blk_drew ?_ | refine blk_alloc ?_ _)); exact BK125.out)) : gb132 ≠ gb125)); have n8_ := Aside0.mk ((by rw [hg]; exact Nat.ne_of_lt (IsS71.lt (show IsS71 w _ g128 t126 t131 from by repeat (first | (with_reducible first | exact HI128.out | apply IsS71.alloc | apply IsS71.drewN | apply IsS71.drew | apply IsS71.set_1 | refine IsS71.far ?_ NB128_125.out _) | exact HI128.out))) : g128 ≠ gb132)); have n9_ := Aside0.mk ((by rw [hg]; exact Nat.ne_of_gt (IsS71.lt (show IsS71 w _ g128 t126 t131 from by repeat (first | (with_reducible first | exact HI128.out | apply IsS71.alloc | apply IsS71.drewN | apply IsS71.drew | apply IsS71.set_1 | refine IsS71.far ?_ NB128_125.out _) | exact HI128.out))) : gb132 ≠ g128)); clear BK125; clear HI128; clear HB; have BK125 := n0_; have HI128 := n1_; have HB := n2_; have BK132 := n3_; have GW132 := n4_; have GE132 := n5_; have NB125_132 := n6_; have NB132_125 := n7_; have NB128_132 := n8_; have NB132_128 := n9_; clear n0_ n1_ n2_ n3_ n4_ n5_ n6_ n7_ n8_ n9_; clear hb hbox hg; have hnb40 := NB132_125.out; have hnc40 := NB125_132.out; have hnb41 := NB132_128.out; have hnc41 := NB128_132.out; have hcz42_0 : w39.cell? ⟨gb132, 0, none⟩ = some (.int .i64 0) := (blk_cell BK132.out 0).trans rfl; have hcz42_1 : w39.cell? ⟨gb132, 1, none⟩ = some (.int .i64 0) := (blk_cell BK132.out 1).trans rfl; have hfz42_0 := blk_frozen BK132.out 0; have hfz42_1 := blk_frozen BK132.out 1) | ((with_reducible refine gate_callee (f := 49) rfl ?_); refine goesL_ (some 13) rfl rfl Try.func49 (by kernel_rfl) rfl #[.pointer (some ⟨g128, 0, none⟩), .int .i64 10] rfl (by (try simp only [List.map_toArray, List.map_cons, List.map_nil]); first | done | rfl | (simp only [List.length_drop, List.length_take]; rfl)) ?_; (with_reducible refine (spec_l6Rd_pick.calls k g128 t126 t131 10 t133 t134 w _ ?side1 ?side2 A4.out).mono ?_); (case side1 => repeat (first | (with_reducible first | exact HI128.out | apply IsS71.alloc | apply IsS71.drewN | apply IsS71.drew | apply IsS71.set_1 | refine IsS71.far ?_ NB128_125.out _ | refine IsS71.far ?_ NB128_132.out _) | exact HI128.out)); (case side2 => repeat (first | (with_reducible first | exact HB.out | apply below_alloc | apply pw_below_drewN | apply below_drew1 | refine below_set ?_ (IsS71.ge HI128.out) | refine below_set ?_ GE125.out | refine below_set ?_ GE132.out) | exact HB.out)); rintro e w43 ⟨rfl, hi, hb, hk⟩; refine ⟨_, rfl, ?_⟩; have n0_ := Aside0.mk (KeepBut.blk hk (g' := gb125) (o := .cells #[.int .i64 0, .int .i64 0] 29 (0, 0)) (by (with_reducible repeat (first | refine blk_drewN ?_ _ | refine blk_drew ?_ | refine blk_alloc ?_ _)); refine blk_far ?_ NB125_132.out _; (with_reducible repeat (first | refine blk_drewN ?_ _ | refine blk_drew ?_ | refine blk_alloc ?_ _)); refine blk_far ?_ NB125_132.out _; (with_reducible repeat (first | refine blk_drewN ?_ _ | refine blk_drew ?_ | refine blk_alloc ?_ _)); exact BK125.out) NB125_128.out (by simp)); have n1_ := Aside0.mk (KeepBut.blk hk (g' := gb132) (o := .cells #[.int .i64 t129, .int .i64 t130] 29 (0, 0)) (by (with_reducible repeat (first | refine blk_drewN ?_ _ | refine blk_drew ?_ | refine blk_alloc ?_ _)); refine blk_put (cs := #[.int .i64 t129, .int .i64 0]) ?_ 1 _ rfl; (with_reducible repeat (first | refine blk_drewN ?_ _ | refine blk_drew ?_ | refine blk_alloc ?_ _)); refine blk_put (cs := #[.int .i64 0, .int .i64 0]) ?_ 0 _ rfl; (with_reducible repeat (first | refine blk_drewN ?_ _ | refine blk_drew ?_ | refine blk_alloc ?_ _)); exact BK132.out) NB132_128.out (by simp)); have n2_ := Aside0.mk (hb); have n3_ := Aside0.mk (hi); clear BK125; clear BK132; clear HB; clear HI128; have BK125 := n0_; have BK132 := n1_; have HB := n2_; have HI128 := n3_; clear n0_ n1_ n2_ n3_; (try clear hb); (try clear hb2); (try clear hk); (try clear hi)) | ((with_reducible refine gate_callee (f := 49) rfl ?_); refine goesL_ (some 27) rfl rfl Try.func49 (by kernel_rfl) rfl #[.pointer (some ⟨g128, 0, none⟩), .int .i64 40] rfl (by (try simp only [List.map_toArray, List.map_cons, List.map_nil]); first | done | rfl | (simp only [List.length_drop, List.length_take]; rfl)) ?_; (with_reducible refine (spec_l6Rd_pick.calls k g128 t126 t134 40 t147 t148 w _ ?side1 ?side2 A34.out).mono ?_); (case side1 => repeat (first | (with_reducible first | exact HI128.out | apply IsS71.alloc | apply IsS71.drewN | apply IsS71.drew | apply IsS71.set_1 | refine IsS71.far ?_ NB128_125.out _ | refine IsS71.far ?_ NB128_132.out _) | exact HI128.out)); (case side2 => repeat (first | (with_reducible first | exact HB.out | apply below_alloc | apply pw_below_drewN | apply below_drew1 | refine below_set ?_ (IsS71.ge HI128.out) | refine below_set ?_ GE125.out | refine below_set ?_ GE132.out) | exact HB.out)); rintro e w44 ⟨rfl, hi, hb, hk⟩; refine ⟨_, rfl, ?_⟩; have n0_ := Aside0.mk (KeepBut.blk hk (g' := gb125) (o := .cells #[.int .i64 0, .int .i64 0] 29 (0, 0)) (by (with_reducible repeat (first | refine blk_drewN ?_ _ | refine blk_drew ?_ | refine blk_alloc ?_ _)); exact BK125.out) NB125_128.out (by simp)); have n1_ := Aside0.mk (KeepBut.blk hk (g' := gb132) (o := .cells #[.int .i64 t129, .int .i64 t130] 29 (0, 0)) (by (with_reducible repeat (first | refine blk_drewN ?_ _ | refine blk_drew ?_ | refine blk_alloc ?_ _)); exact BK132.out) NB132_128.out (by simp)); have n2_ := Aside0.mk (hb); have n3_ := Aside0.mk (hi); clear BK125; clear BK132; clear HB; clear HI128; have BK125 := n0_; have BK132 := n1_; have HB := n2_; have HI128 := n3_; clear n0_ n1_ n2_ n3_; (try clear hb); (try clear hb2); (try clear hk); (try clear hi)))
    have n0_ := Aside0.mk (blk_drew BK125.out)
    have n1_ := Aside0.mk (blk_drew BK132.out)
    have n2_ := Aside0.mk (IsS71.drew HI128.out)
    have n3_ := Aside0.mk (below_drew1 HB.out)
    clear BK125
    clear BK132
    clear HI128
    clear HB
    have BK125 := n0_
    have BK132 := n1_
    have HI128 := n2_
    have HB := n3_
    clear n0_ n1_ n2_ n3_
    refine start_ (n := 8) (S := fun w' => w'.cell? ⟨gb132, 0, none⟩ = some (.int .i64 t129) ∧ w'.cell? ⟨gb132, 1, none⟩ = some (.int .i64 t130)) (ds := []) #[false, false, false, false, false, false, false, false] (by kernel_rfl) rfl rfl ⟨(blk_cell BK132.out 0).trans rfl, (blk_cell BK132.out 1).trans rfl⟩ (fun hHeld => ?_); refine with_tabW spec_DrawAmountScale.tab6 spec_DrawAmountScale.bits6 (fun HT_ HW_ => ?_)
    generalize w44.drew = w45 at BK125 BK132 HI128 HB hHeld ⊢
    refine pure_ (i := 1) (N := some 29) (v := ?_) (a' := ?_) #[false, true, false, false, false, false, false, false] rfl rfl (any_of HT_.out (by kernel_rfl)) (fun _ _ _ h => h) (Or.inl ⟨by rfl, ?_⟩) ?_ ?_
    rotate_left
    · intro w'
      go_simp
      with_reducible rfl
    rotate_left
    · simp only [Act.put, List.setIfInBounds_toArray, List.set_cons_zero, List.set_cons_succ, i64_w, i32_w]
      rfl
    refine pure_ (i := 2) (N := some 30) (v := ?_) (a' := ?_) #[false, true, true, false, false, false, false, false] rfl rfl (any_of HT_.out (by kernel_rfl)) (fun _ _ _ h => h) (Or.inl ⟨by rfl, ?_⟩) ?_ ?_
    rotate_left
    · intro w'
      go_simp
      with_reducible rfl
    rotate_left
    · simp only [Act.put, List.setIfInBounds_toArray, List.set_cons_zero, List.set_cons_succ, i64_w, i32_w]
      rfl
    refine take_ (i := 0) (N := some 28) (v := ?_) (a' := ?_) #[true, true, true, false, false, false, false, false] rfl rfl (take_ofW HT_.out HW_.out (by kernel_rfl)) (fun _ _ _ h => h) (Or.inl ⟨by rfl, ?_⟩) hHeld ?_ ?_
    rotate_left
    · rintro w' ⟨s0, s1⟩
      go_simp
      with_reducible rfl
    rotate_left
    · simp only [Act.put, List.setIfInBounds_toArray, List.set_cons_zero, List.set_cons_succ, i64_w, i32_w]
      rfl
    refine one_ (i := 3) (N := some 31) #[true, true, true, true, false, false, false, false] rfl rfl (one_of HT_.out (by kernel_rfl)) (by decide) (fun K hK => ?_)
    refine goes_ Try.func49 (by kernel_rfl) rfl #[.pointer (some ⟨g128, 0, none⟩), .int .i64 30] (by rfl) rfl rfl (by (try simp only [List.map_toArray, List.map_cons, List.map_nil]); first | done | rfl | (simp only [List.length_drop, List.length_take]; rfl)) ?_
    with_reducible refine (spec_l6Rd_pick.calls k g128 t126 t148 30 t149 t150 w _ ?side1 ?side2 A35.out).mono ?_
    (case side1 => repeat (first | (with_reducible first | exact HI128.out | apply IsS71.alloc | apply IsS71.drewN | apply IsS71.drew | apply IsS71.set_1 | refine IsS71.far ?_ NB128_125.out _ | refine IsS71.far ?_ NB128_132.out _) | exact HI128.out))
    (case side2 => repeat (first | (with_reducible first | exact HB.out | apply below_alloc | apply pw_below_drewN | apply below_drew1 | refine below_set ?_ (IsS71.ge HI128.out) | refine below_set ?_ GE125.out | refine below_set ?_ GE132.out) | exact HB.out))
    rintro e w46 ⟨rfl, hi, hb, hk⟩
    refine ⟨_, rfl, ?_⟩
    have n0_ := Aside0.mk (KeepBut.blk hk (g' := gb125) (o := .cells #[.int .i64 0, .int .i64 0] 29 (0, 0)) (by (with_reducible repeat (first | refine blk_drewN ?_ _ | refine blk_drew ?_ | refine blk_alloc ?_ _)); exact BK125.out) NB125_128.out (by simp))
    have n1_ := Aside0.mk (KeepBut.blk hk (g' := gb132) (o := .cells #[.int .i64 t129, .int .i64 t130] 29 (0, 0)) (by (with_reducible repeat (first | refine blk_drewN ?_ _ | refine blk_drew ?_ | refine blk_alloc ?_ _)); exact BK132.out) NB132_128.out (by simp))
    have n2_ := Aside0.mk (hb)
    have n3_ := Aside0.mk (hi)
    clear BK125
    clear BK132
    clear HB
    clear HI128
    have BK125 := n0_
    have BK132 := n1_
    have HB := n2_
    have HI128 := n3_
    clear n0_ n1_ n2_ n3_
    (try clear hb)
    (try clear hb2)
    (try clear hk)
    (try clear hi)
    refine hK.out _ _ ⟨(blk_cell BK132.out 0).trans rfl, (blk_cell BK132.out 1).trans rfl⟩ (fun hHeld => ?_)
    clear hK K
    refine norm_ (a' := ?_) ?_ ?_
    rotate_left
    · show Act.put _ (some 31) _ = _
      simp only [Act.put, List.setIfInBounds_toArray, List.set_cons_zero, List.set_cons_succ, i64_w, i32_w]
      rfl
    refine pure_ (i := 4) (N := some 32) (v := ?_) (a' := ?_) #[true, true, true, true, true, false, false, false] rfl rfl (any_of HT_.out (by kernel_rfl)) (fun _ _ _ h => h) (Or.inl ⟨by rfl, ?_⟩) ?_ ?_
    rotate_left
    · intro w'
      go_simp
      with_reducible rfl
    rotate_left
    · simp only [Act.put, List.setIfInBounds_toArray, List.set_cons_zero, List.set_cons_succ, i64_w, i32_w]
      rfl
    refine one_ (i := 5) (N := none) #[true, true, true, true, true, true, false, false] rfl rfl (one_of HT_.out (by kernel_rfl)) (by decide) (fun K hK => ?_)
    have hs47 : w46.cell? ⟨gb125, 0, none⟩ = some (.int .i64 0) := (blk_cell BK125.out 0).trans rfl
    have hfs47 := blk_frozen BK125.out 0
    have hns47_1 := NB132_125.out
    have hms47_1 := NB125_132.out
    have hs48 : w46.cell? ⟨gb125, 1, none⟩ = some (.int .i64 0) := (blk_cell BK125.out 1).trans rfl
    have hfs48 := blk_frozen BK125.out 1
    have hns48_1 := NB132_125.out
    have hms48_1 := NB125_132.out
    refine skip_ (w1 := ?_) (by rfl) rfl ?_ ?_
    rotate_left
    · go_simp
      rfl
    refine hK.out _ _ ⟨((cell_far (p := ⟨gb125, _, none⟩) NB132_125.out _).trans (((cell_far (p := ⟨gb125, _, none⟩) NB132_125.out _).trans (hHeld.1)))), ((cell_far (p := ⟨gb125, _, none⟩) NB132_125.out _).trans (((cell_far (p := ⟨gb125, _, none⟩) NB132_125.out _).trans (hHeld.2))))⟩ (fun hHeld => ?_)
    clear hK K
    refine pure_ (i := 6) (N := some 3) (v := ?_) (a' := ?_) #[true, true, true, true, true, true, true, false] rfl rfl (any_of HT_.out (by kernel_rfl)) (fun _ _ _ h => h) (Or.inl ⟨by rfl, ?_⟩) ?_ ?_
    rotate_left
    · intro w'
      go_simp
      with_reducible rfl
    rotate_left
    · simp only [Act.put, List.setIfInBounds_toArray, List.set_cons_zero, List.set_cons_succ, i64_w, i32_w]
      rfl
    refine pure_ (i := 7) (N := some 4) (v := ?_) (a' := ?_) #[true, true, true, true, true, true, true, true] rfl rfl (any_of HT_.out (by kernel_rfl)) (fun _ _ _ h => h) (Or.inl ⟨by rfl, ?_⟩) ?_ ?_
    rotate_left
    · intro w'
      go_simp
      with_reducible rfl
    rotate_left
    · simp only [Act.put, List.setIfInBounds_toArray, List.set_cons_zero, List.set_cons_succ, i64_w, i32_w]
      rfl
    refine done_ (done_of HT_.out (by kernel_rfl)) ?_
    try go_wp2
    refine bodyPost_ret (results_ctt rfl _ _ gb125 29 #[.int .i64 t129, .int .i64 t130] (0, 0) _ rfl (by (with_reducible repeat (first | refine blk_drewN ?_ _ | refine blk_drew ?_ | refine blk_alloc ?_ _)); refine blk_put (cs := #[.int .i64 t129, .int .i64 0]) ?_ 1 _ rfl; (with_reducible repeat (first | refine blk_drewN ?_ _ | refine blk_drew ?_ | refine blk_alloc ?_ _)); refine blk_put (cs := #[.int .i64 0, .int .i64 0]) ?_ 0 _ rfl; (with_reducible repeat (first | refine blk_drewN ?_ _ | refine blk_drew ?_ | refine blk_alloc ?_ _)); exact BK125.out) Try.underlying29 rfl (by kernel_rfl)) rfl ?_
    exact ⟨by first | rfl | (simp [errW_none, errW_some] <;> rfl) | (simp [*, errW_none, errW_some] <;> rfl), by repeat (first | (with_reducible first | exact HB.out | apply below_alloc | apply pw_below_drewN | apply below_drew1 | refine below_set ?_ (IsS71.ge HI128.out) | refine below_set ?_ GE125.out | refine below_set ?_ GE132.out) | exact HB.out)⟩

/-! ### impl_within: function 46 -/
def impl_within.f (a0 : Int) (a1 : Int) (a2 : Int) : Option (Bool) := if a0 ≥ a1 then (some (decide (a0 ≤ a2))) else (some false)
set_option maxHeartbeats 8000000 in
set_option maxRecDepth 100000 in
theorem impl_within.calls (a0 : Int) (a1 : Int) (a2 : Int) (r : Bool) (w : World) (h : impl_within.f a0 a1 a2 = some r) :
    Calls Try.prog 46 #[.int .i64 a0, .int .i64 a1, .int .i64 a2] w fun e w' => e = .returned (.bool r) ∧ Drawn0 w w' := by
  have H : (if a0 ≥ a1 then (some (decide (a0 ≤ a2))) else (some false)) = some r := h
  clear h
  by_cases c4 : a0 ≥ a1
  · rw [if_pos c4] at H
    have c4b0 : decide (a1 ≤ a0) = true := decide_eq_true c4
    clear c4
    obtain rfl := Option.some.inj H
    go_enter Try.func46, Try.ntmps46
    go_wp2
    go_ret
    exact ⟨by first | rfl | (simp; done) | (simp [*]; done), by repeat (first | exact Drawn0.refl _ | apply Drawn0.step)⟩
  · rw [if_neg c4] at H
    have c4b0 : decide (a1 ≤ a0) = false := decide_eq_false c4
    clear c4
    obtain rfl := Option.some.inj H
    go_enter Try.func46, Try.ntmps46
    go_wp2
    go_ret
    exact ⟨by first | rfl | (simp; done) | (simp [*]; done), by repeat (first | exact Drawn0.refl _ | apply Drawn0.step)⟩

/-! ### impl_AmountValid: function 50 -/
def impl_AmountValid.f (a0_0 : Int) (a0_1 : Int) : Option (Bool) := (impl_within.f a0_0 0 9999).bind fun t152 => (if t152 = true then ((impl_within.f a0_1 1 3).bind fun t153 => (some t153)) else (some false))
set_option maxHeartbeats 8000000 in
set_option maxRecDepth 100000 in
theorem impl_AmountValid.calls (a0_0 : Int) (a0_1 : Int) (r : Bool) (w : World) (h : impl_AmountValid.f a0_0 a0_1 = some r) :
    Calls Try.prog 50 #[.agg #[.int .i64 a0_0, .int .i64 a0_1]] w fun e w' => e = .returned (.bool r) ∧ Below w.heap.size w w' := by
  have hu29 := Try.underlying29
  have HB := Aside0.mk (Below.refl w.heap.size w)
  have H : ((impl_within.f a0_0 0 9999).bind fun t152 => (if t152 = true then ((impl_within.f a0_1 1 3).bind fun t153 => (some t153)) else (some false))) = some r := h
  clear h
  replace H := Option.bind_eq_some_iff.mp H
  obtain ⟨t152, A20, H⟩ := H
  replace H : (if t152 = true then ((impl_within.f a0_1 1 3).bind fun t153 => (some t153)) else (some false)) = some r := H
  have A2 := Aside0.mk A20
  clear A20
  by_cases c3 : t152 = true
  · subst c3
    have H1 : ((impl_within.f a0_1 1 3).bind fun t153 => (some t153)) = some r := by rw [if_pos rfl] at H; exact H
    clear H
    have H := H1
    clear H1
    replace H := Option.bind_eq_some_iff.mp H
    obtain ⟨t153, A40, H⟩ := H
    replace H : (some t153) = some r := H
    have A4 := Aside0.mk A40
    clear A40
    obtain rfl := Option.some.inj H
    go_enter Try.func50, Try.ntmps50
    go_wp2_with (first | ((with_reducible refine gate_dst (N := 1) rfl ?_); refine box_event ?hg (N := 1) ?hd (cs := #[.int .i64 a0_0, .int .i64 a0_1]) (t := 29) ?hr ?_; (case hd => rfl); (case hg => rfl); (case hr => first | (go_simp; done) | (go_simp; rfl)); intro gb151 hg w5 hbox hb; have n0_ := Aside0.mk (below_step (by repeat (first | (with_reducible first | exact HB.out | apply below_alloc | apply pw_below_drewN | apply below_drew1) | exact HB.out)) hb); have n1_ := Aside0.mk (hbox); have n2_ := Aside0.mk ((by rw [hg]; exact (below_size (by repeat (first | (with_reducible first | exact HB.out | apply below_alloc | apply pw_below_drewN | apply below_drew1) | exact HB.out))) : w.heap.size ≤ gb151)); have n3_ := Aside0.mk ((by rw [hg]; exact (below_size (by repeat (first | (with_reducible first | exact HB.out | apply below_alloc | apply pw_below_drewN | apply below_drew1) | exact HB.out))) : w.heap.size ≤ gb151)); clear HB; have HB := n0_; have BK151 := n1_; have GW151 := n2_; have GE151 := n3_; clear n0_ n1_ n2_ n3_; clear hb hbox hg; have hcz6_0 : w5.cell? ⟨gb151, 0, none⟩ = some (.int .i64 a0_0) := (blk_cell BK151.out 0).trans rfl; have hcz6_1 : w5.cell? ⟨gb151, 1, none⟩ = some (.int .i64 a0_1) := (blk_cell BK151.out 1).trans rfl; have hfz6_0 := blk_frozen BK151.out 0; have hfz6_1 := blk_frozen BK151.out 1) | ((with_reducible refine gate_callee (f := 46) rfl ?_); refine goesL_ (some 5) rfl rfl Try.func46 (by kernel_rfl) rfl #[.int .i64 a0_0, .int .i64 0, .int .i64 9999] rfl (by (try simp only [List.map_toArray, List.map_cons, List.map_nil]); first | done | rfl | (simp only [List.length_drop, List.length_take]; rfl)) ?_; (with_reducible refine (impl_within.calls a0_0 0 9999 true _ A2.out).mono ?_); rintro e w' ⟨rfl, ⟨nd, rfl⟩⟩; refine ⟨_, rfl, ?_⟩) | (go_at_call 46; (with_reducible refine (impl_within.calls a0_1 1 3 t153 _ A4.out).mono ?_); rintro e w' ⟨rfl, ⟨nd, rfl⟩⟩))
    go_ret
    exact ⟨by first | rfl | (simp [errW_none, errW_some] <;> rfl) | (simp [*, errW_none, errW_some] <;> rfl), by repeat (first | (with_reducible first | exact HB.out | apply below_alloc | apply pw_below_drewN | apply below_drew1 | refine below_set ?_ GE151.out) | exact HB.out)⟩
  · replace c3 := Bool.eq_false_iff.mpr c3
    subst c3
    have H1 : (some false) = some r := by rw [if_neg (show ¬ (false = true) by decide)] at H; exact H
    clear H
    have H := H1
    clear H1
    obtain rfl := Option.some.inj H
    go_enter Try.func50, Try.ntmps50
    go_wp2_with (first | ((with_reducible refine gate_dst (N := 1) rfl ?_); refine box_event ?hg (N := 1) ?hd (cs := #[.int .i64 a0_0, .int .i64 a0_1]) (t := 29) ?hr ?_; (case hd => rfl); (case hg => rfl); (case hr => first | (go_simp; done) | (go_simp; rfl)); intro gb151 hg w7 hbox hb; have n0_ := Aside0.mk (below_step (by repeat (first | (with_reducible first | exact HB.out | apply below_alloc | apply pw_below_drewN | apply below_drew1) | exact HB.out)) hb); have n1_ := Aside0.mk (hbox); have n2_ := Aside0.mk ((by rw [hg]; exact (below_size (by repeat (first | (with_reducible first | exact HB.out | apply below_alloc | apply pw_below_drewN | apply below_drew1) | exact HB.out))) : w.heap.size ≤ gb151)); have n3_ := Aside0.mk ((by rw [hg]; exact (below_size (by repeat (first | (with_reducible first | exact HB.out | apply below_alloc | apply pw_below_drewN | apply below_drew1) | exact HB.out))) : w.heap.size ≤ gb151)); clear HB; have HB := n0_; have BK151 := n1_; have GW151 := n2_; have GE151 := n3_; clear n0_ n1_ n2_ n3_; clear hb hbox hg; have hcz8_0 : w7.cell? ⟨gb151, 0, none⟩ = some (.int .i64 a0_0) := (blk_cell BK151.out 0).trans rfl; have hcz8_1 : w7.cell? ⟨gb151, 1, none⟩ = some (.int .i64 a0_1) := (blk_cell BK151.out 1).trans rfl; have hfz8_0 := blk_frozen BK151.out 0; have hfz8_1 := blk_frozen BK151.out 1) | ((with_reducible refine gate_callee (f := 46) rfl ?_); refine goesL_ (some 5) rfl rfl Try.func46 (by kernel_rfl) rfl #[.int .i64 a0_0, .int .i64 0, .int .i64 9999] rfl (by (try simp only [List.map_toArray, List.map_cons, List.map_nil]); first | done | rfl | (simp only [List.length_drop, List.length_take]; rfl)) ?_; (with_reducible refine (impl_within.calls a0_0 0 9999 false _ A2.out).mono ?_); rintro e w' ⟨rfl, ⟨nd, rfl⟩⟩; refine ⟨_, rfl, ?_⟩))
    go_ret
    exact ⟨by first | rfl | (simp [errW_none, errW_some] <;> rfl) | (simp [*, errW_none, errW_some] <;> rfl), by repeat (first | (with_reducible first | exact HB.out | apply below_alloc | apply pw_below_drewN | apply below_drew1 | refine below_set ?_ GE151.out) | exact HB.out)⟩

/-! ### impl_roundedUp: function 54 -/
def impl_roundedUp.f (a0 : Int) (a1 : Int) : Option (Int) := if a1 = 0 then (none) else (some (wrap64 (Int.tdiv (wrap64 ((wrap64 (a0 + a1)) - 1)) a1)))
set_option maxHeartbeats 8000000 in
set_option maxRecDepth 100000 in
theorem impl_roundedUp.calls (a0 : Int) (a1 : Int) (r : Int) (w : World) (h : impl_roundedUp.f a0 a1 = some r) :
    Calls Try.prog 54 #[.int .i64 a0, .int .i64 a1] w fun e w' => e = .returned (.int .i64 r) ∧ Drawn0 w w' := by
  have H : (if a1 = 0 then (none) else (some (wrap64 (Int.tdiv (wrap64 ((wrap64 (a0 + a1)) - 1)) a1)))) = some r := h
  clear h
  by_cases c3 : a1 = 0
  · rw [if_pos c3] at H
    exact absurd H (by simp)
  · rw [if_neg c3] at H
    have c3b0 : (a1 == 0) = false := beq_eq_false_iff_ne.mpr c3
    have c3b1 : (a1 != 0) = true := bne_iff_ne.mpr c3
    obtain rfl := Option.some.inj H
    go_enter Try.func54, Try.ntmps54
    go_wp2
    go_ret
    exact ⟨by first | rfl | (simp; done) | (simp [*]; done), by repeat (first | exact Drawn0.refl _ | apply Drawn0.step)⟩

end Go.Proofs.Ytkjkapmjhafimaa.PFnAmountScale
