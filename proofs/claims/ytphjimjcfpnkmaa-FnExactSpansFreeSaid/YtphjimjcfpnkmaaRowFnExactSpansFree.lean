/- The row of FnExactSpansFree: whatever the input, true, and the input reads as it did. -/
import Derived.Test.YtphjimjcfpnkmaaRows
import Derived.Test.YtphjimjcfpnkmaaQFnExactSpansFree
import Derived.Test.YtphjimjcfpnkmaaPureFnExactSpansFree
import Derived.WalkKit
import Derived.ProofKit
import Derived.OpenShut
import Derived.ShutString
import Derived.ChangeOld
import Derived.Below
import Derived.SizedLaws
import Derived.Deep.Slices
import Derived.Deep.Fields
import Derived.ChangeSame
import Derived.Lib.SmallJoins
namespace Go.Proofs.Ytphjimjcfpnkmaa.fnExactSpansFree
open Go.ChangeShapes Go.WideShapes Go.ChangeAt Go.RowKit Go.Deep Go.Joins
open Go.ChangeMaps (open_string shut_string)
open Go.Proofs.YtphjimjcfpnkmaaW.PrintWords Go.Proofs.YtphjimjcfpnkmaaW.PrintLast
set_option linter.unusedVariables false
set_option linter.unusedSimpArgs false
theorem own : ownKnob Try.prog.godebug = none := by kernel_rfl
theorem laidOut : laidOutB Try.prog = true := by kernel_rfl
/-- A slice of structs of one-cell int fields, read: its cells. -/
theorem open_ints_structs {H : Type} {enc : TypeId × Value → H} {P : Program} {w : World} {base : Nat} {spare : Nat → Bool} {held : Bool} {t e : TypeId} {fs : Array Field} {fuel : Nat} {A : Option Addr} {len cap : Nat} {x : DataW H × List MemPlace}
    (ht : P.underlying t = some (.slice e)) (he : P.underlying e = some (.struct fs)) (hone : oneCellFields P fs = true) (hC : P.cellsOf e = fs.size) {ti : TypeId} (hT : P.underlying ti = some (.int .i64)) (hi : fs.toList.all (fun f => decide (f.type = ti)) = true)
    (h : DataW.trod enc P w base spare held fuel t [.slice A len cap] = some x) :
    ∃ V : Nat → Nat → Int, len ≤ cap ∧ cap ≤ maxLen ∧ (0 < len → ∃ ad, A = some ad ∧ ∀ i j, i < len → j < fs.size → w.cell? (ad.add (i * fs.size + j)) = some (.int .i64 (V i j))) := by
  rcases open_slice ht h with ⟨h0, _⟩ | ⟨a, len', cap', m, n, D, Pl, hcs, hb, hl, hm, hmm, hx, hcell⟩
  · have h1 : A = none ∧ len = 0 ∧ cap = 0 := by simpa using h0
    obtain ⟨rfl, rfl, rfl⟩ := h1
    exact ⟨fun _ _ => 0, Nat.le_refl _, Nat.zero_le _, fun h => absurd h (by omega)⟩
  · have h1 : A = some a ∧ len = len' ∧ cap = cap' := by simpa using hcs
    obtain ⟨rfl, rfl, rfl⟩ := h1
    have one : ∀ i j, ∃ v : Int, i < len → j < fs.size → w.cell? (a.add (i * fs.size + j)) = some (.int .i64 v) := fun i j => by
      by_cases hi' : i < len
      · by_cases hj : j < fs.size
        · have him : i < m := by rw [hmm]; split <;> omega
          obtain ⟨cs', hc, ht'⟩ := hcell i him
          rw [hC] at hc
          obtain ⟨ys, n', hn', hy, hlen, hyl, hf⟩ := DataW.trod_struct he ht'
          obtain ⟨_, hcl, hat⟩ := World.cells?_some hc
          have hfj : fs[j]? = some (fs[j]'hj) := Array.getElem?_eq_getElem hj
          have hu : P.underlying (fs[j]'hj).type = some (.int .i64) := by
            rw [of_decide_eq_true (List.all_eq_true.1 hi (fs[j]'hj) (by simp))]
            exact hT
          obtain ⟨ho, hk⟩ := hone_of hone j _ hfj
          have h1 := hf j _ hfj
          rw [ho, hk] at h1
          have hone' : (cs'.drop j).take 1 = [cs'[j]'(by omega)] := by
            rw [List.drop_eq_getElem_cons (by omega)]
            rfl
          have hys : ys[j]? = some (ys[j]'(by omega)) := List.getElem?_eq_getElem (by omega)
          rw [hone'] at h1
          obtain ⟨v, hv, _⟩ := DataW.trod_int hu (h1.trans hys)
          refine ⟨v, fun _ _ => ?_⟩
          have hcl' := hat j hj
          rw [← Go.Deep.add_add, hcl', List.getElem?_eq_getElem (by omega)]
          simpa using hv
        · exact ⟨0, fun _ h => absurd h hj⟩
      · exact ⟨0, fun h => absurd h hi'⟩
    exact ⟨fun i j => Classical.choose (one i j), hl, hm, fun _ => ⟨a, rfl, fun i j h0 h1 => Classical.choose_spec (one i j) h0 h1⟩⟩
theorem list0 {H : Type} {enc : TypeId × Value → H} {W : World} {base : Nat} {spare : Nat → Bool} {held : Bool} {A : Option Addr} {len cap : Nat} {d : DataW H} {p : List MemPlace} (h : DataW.Trod enc Try.prog W base spare held 31 (.slice A len cap) d p) :
    ∃ l : List Go.Proofs.Ytphjimjcfpnkmaa.PFnExactSpansFree.S32, len = l.length ∧ len ≤ cap ∧ cap ≤ maxLen ∧ Kd.C Go.Proofs.Ytphjimjcfpnkmaa.PFnExactSpansFree.k32 W A len l := by
  obtain ⟨fuel, hf⟩ := h
  obtain ⟨V, hl, hm, hc⟩ := open_ints_structs Try.underlying31 Try.underlying32 (by kernel_rfl) (by kernel_rfl) Try.underlying3 (by kernel_rfl) hf
  refine ⟨(List.range len).map fun i => ⟨V i 0, V i 1⟩, by simp, hl, hm, by simp, by unfold maxLen at hm; omega, fun hn => ?_⟩
  obtain ⟨ad, e, hcell⟩ := hc hn
  refine ⟨ad, e, fun j q hq => ?_⟩
  have hj : j < len := by
    have := (List.getElem?_eq_some_iff.1 hq).1
    simpa using this
  have hq' : q = ⟨V j 0, V j 1⟩ := by
    rw [List.getElem?_map, List.getElem?_range hj] at hq
    simpa using hq.symm
  refine ⟨[.int .i64 (V j 0), .int .i64 (V j 1)], rfl, by rw [hq']; exact Go.Proofs.Ytphjimjcfpnkmaa.PFnExactSpansFree.k32_mk _ _, fun i u hu => ?_⟩
  match i, hu with
  | 0, hu =>
    obtain rfl : Value.int .i64 (V j 0) = u := by simpa using hu
    exact hcell j 0 hj (by decide)
  | 1, hu =>
    obtain rfl : Value.int .i64 (V j 1) = u := by simpa using hu
    exact hcell j 1 hj (by decide)
  | i + 2, hu => simp at hu
set_option maxRecDepth 100000 in
theorem lifted (os : Os) (started : os.Started) (H : Type) (enc : TypeId × Value → H) :
    ReturnsInHanded {} Try.checked os 4 .any (Rows.fnExactSpansFreeSpec.pre6 enc Try.prog Try.f4 Rows.fnExactSpansFreeRow.domain false) (Rows.fnExactSpansFreeSpec.post enc Try.prog Try.f4 false true false false) := by
  refine returnsInHanded_of_change_sized (C := Try.checked) own started (by kernel_rfl) Try.func4
    (ChangeSpec.witness6 (enc := enc) (C := Try.checked) false ⟨#[], #[.slice none 0 0, .agg #[.int .i64 0, .int .i64 0]], []⟩ 8 (by kernel_rfl) (by kernel_rfl) (by kernel_rfl) (by kernel_rfl)) ?_
  intro W base args ds gs before hval0 hW hcnd hsz0 _
  have hsz : (DataW.weightsEach Try.prog (Try.f4.params.toList ++ Rows.fnExactSpansFreeSpec.plain.varTypes Try.prog) (ds ++ gs)).all (· ≤ reachBytes) = true := hsz0
  have hval : ∀ (j : Nat) t v, Try.f4.params[j]? = some t → args[j]? = some v → Value.okWide Try.prog W .any base t v := hval0
  have hW' := hW
  obtain ⟨p, q, hA0, hV, rfl, hfz, hnd⟩ := hW
  have hA : DataW.TrodAll enc Try.prog W 0 (fun _ => true) true Try.f4.params.toList args.toList ds p := hA0
  rw [Try.params4] at hA hval hsz
  obtain ⟨v0, vs0, d0, ds0, p0, q0, hargs, rfl, rfl, h0, r0⟩ := trodAll_cons hA
  obtain ⟨v1, vs1, d1, ds1, p1, q1, rfl, rfl, rfl, h1, r1⟩ := trodAll_cons r0
  obtain ⟨rfl, rfl, rfl⟩ := trodAll_nil r1
  obtain rfl : args = #[v0, v1] := by cases args; simp_all
  obtain ⟨rfl, rfl⟩ := trodVars_none hV
  have k0 := h0
  have lt0 : ∀ x ∈ p0, x.block < W.heap.size := by obtain ⟨m, hm⟩ := k0; exact DataW.trod_lt m _ _ _ hm
  obtain ⟨A0, len0, cap0, rfl⟩ := okWide_slice Try.underlying31 (hval 0 31 v0 rfl rfl)
  obtain ⟨l0, rfl, hc0, hm0, hr0⟩ := list0 h0
  have k1 := h1
  have lt1 : ∀ x ∈ p1, x.block < W.heap.size := by obtain ⟨m, hm⟩ := k1; exact DataW.trod_lt m _ _ _ hm
  obtain ⟨c1_0, c1_1, y1_0, y1_1, m1, rfl, _, _, hy1_0, hy1_1⟩ := open_agg2 Try.underlying32 (by kernel_rfl) (by kernel_rfl) (hval 1 32 v1 rfl rfl) h1
  obtain ⟨a1_0, e1_0, _, w1_0⟩ := DataW.trod_int Try.underlying3 hy1_0
  obtain rfl : c1_0 = .int .i64 a1_0 := by simpa using e1_0
  obtain ⟨a1_1, e1_1, _, w1_1⟩ := DataW.trod_int Try.underlying3 hy1_1
  obtain rfl : c1_1 = .int .i64 a1_1 := by simpa using e1_1
  clear hA0 hval0 hsz0 hsz
  obtain ⟨k, hP⟩ := Pure.FnExactSpansFree l0 (Nat.le_trans hc0 hm0) a1_0 a1_1
  refine (Go.Proofs.Ytphjimjcfpnkmaa.PFnExactSpansFree.laws_FnExactSpansFree.calls (k := k) (l0 := l0) (hr0 := hr0) (hc0 := hc0) (a1_0 := a1_0) (a1_1 := a1_1) (r := true) (w := W) (h := hP)).mono fun e W' ⟨he, bel0⟩ => ?_
  have bel : Below W.heap.size W W' := by first | exact bel0 | exact bel0.below
  subst he
  exact ⟨_, rfl, _, _, _, [], _, [], hW', trodAll_mk1 (shut_bool Try.underlying4 _), (trodAll_cons_mk (Below.trod laidOut (by kernel_rfl) (of_decide_eq_true (by kernel_rfl)) k0 bel lt0) (trodAll_cons_mk (Below.trod laidOut (by kernel_rfl) (of_decide_eq_true (by kernel_rfl)) k1 bel lt1) trodAll_mk0)), rfl, bel.frame _, fun h => by cases h⟩
theorem over : Rows.fnExactSpansFreeRow.holds Try.pinned (OpenSpec.ofChange Rows.fnExactSpansFreeSpec) :=
  OpenClaim.holds_of_wide 4 Try.f4 rfl rfl rfl rfl rfl rfl rfl ⟨rfl, rfl, rfl, rfl, rfl⟩ rfl rfl rfl rfl rfl (by kernel_rfl) Try.func4 (by kernel_rfl)
    (of_decide_eq_true (by kernel_rfl)) (by unfold Func.isWrapper; first | (rw [if_pos (by decide +kernel)]; kernel_rfl) | (rw [if_neg (by decide +kernel)]; exact ⟨rfl, rfl⟩))
    (fun os started H enc _ => lifted os started H enc)
theorem proved : Rows.FnExactSpansFreeSaid := over
#print axioms proved
end Go.Proofs.Ytphjimjcfpnkmaa.fnExactSpansFree
namespace Go.Proofs.Ytphjimjcfpnkmaa
/-- The row, under a short name, for the claim. -/
theorem fnExactSpansFree_holds : Rows.FnExactSpansFreeSaid := fnExactSpansFree.proved
end Go.Proofs.Ytphjimjcfpnkmaa
