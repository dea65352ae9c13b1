/- What strconv.Itoa, strconv.Atoi and strings.CutSuffix answer in a world in which the listed variables read as the program's text lays them. -/
import Derived.Test.YtdedhnlgjegbhaaDoorShelf
import Derived.Test.YtdedhnlgjegbhaaDoorRows
import Derived.Lib.SmallJoins
import Derived.Lib.AtoiErrMem
import Derived.Lib.LaidTab
import Derived.Stop.LaidErr
import Derived.KernelRfl
namespace Go.Proofs.YtdedhnlgjegbhaaDoor.Shelf
open Go Go.Proofs
set_option maxRecDepth 100000

/-- The table of powers of ten reads as the program's text lays it. -/
def Tab (w : World) : Prop := Lib.TabIs Tryd.prog w "internal/strconv.uint64pow10" .u64 Lib.pow10Tab
theorem gTab : ∃ g, Tryd.prog.globalNamed "internal/strconv.uint64pow10" = some g := ⟨2, by kernel_rfl⟩
theorem Tab_of {w w' : World} (h : Tab w) (hb : RowKit.Below w.heap.size w w') : Tab w' := by
  obtain ⟨g, hg⟩ := gTab
  exact Joins.tab_stays hg h hb (Nat.le_refl _)
theorem below_grow (w : World) (k : Nat) (os : Array Obj) : RowKit.Below w.heap.size w (Go.Sort.grow (w.drewN k) os) := by
  refine ⟨rfl, rfl, rfl, ?_, fun b hb => ?_⟩
  · simp [Go.Sort.grow, World.drewN]
  · simp [Go.Sort.grow, World.drewN, Array.getElem?_append, hb]
theorem itoa_any (n : Int) (h0 : -9223372036854775808 ≤ n) (h1 : n ≤ 9223372036854775807) (w : World) (hT : Tab w) : Calls Tryd.prog 31 #[.int .i64 n] w fun e w' => e = .returned (.string ⟨(Lib.itoa n).toArray⟩) ∧ RowKit.Below w.heap.size w w' := by
  refine (Any.strconv_Itoa lItoa n h0 h1 w hT).mono fun e w' ⟨he, hw⟩ => ?_
  obtain ⟨k, os, rfl⟩ := hw
  exact ⟨he, below_grow w k os⟩
theorem cut_any (s p : ByteArray) (w : World) (hs : s.size ≤ 9223372036854775807) : Calls Tryd.prog 36 #[.string s, .string p] w fun e w' => e = .returned (.tuple #[.string ⟨(Lib.trimSuffix s.data.toList p.data.toList).toArray⟩, .bool (Lib.hasSuffix s.data.toList p.data.toList)]) ∧ w' = w := Any.strings_CutSuffix lCut s p w hs
/-- The table and the two errors read as the program's text lays them. -/
def Lw (w : World) : Prop := Tab w ∧ (∃ tp p, w.var? Tryd.prog "strconv.ErrSyntax" = some #[.iface tp p]) ∧ (∃ tp p, w.var? Tryd.prog "strconv.ErrRange" = some #[.iface tp p])
theorem gSyn : ∃ g, Tryd.prog.globalNamed "strconv.ErrSyntax" = some g := ⟨0, by kernel_rfl⟩
theorem gRng : ∃ g, Tryd.prog.globalNamed "strconv.ErrRange" = some g := ⟨1, by kernel_rfl⟩
theorem Lw_of {w w' : World} (h : Lw w) (hb : RowKit.Below w.heap.size w w') : Lw w' := by
  obtain ⟨h0, ⟨t1, p1, h1⟩, ⟨t2, p2, h2⟩⟩ := h
  obtain ⟨g1, hg1⟩ := gSyn
  obtain ⟨g2, hg2⟩ := gRng
  exact ⟨Tab_of h0 hb, ⟨t1, p1, Joins.var_stays hg1 h1 hb (Nat.le_refl _)⟩, ⟨t2, p2, Joins.var_stays hg2 h2 hb (Nat.le_refl _)⟩⟩
/-- strconv.Atoi at every string: a number and no error, where the text is that number's; else some error. -/
theorem atoi_any (s : ByteArray) (hs : s.size ≤ 281474976710656) (w : World) (hT : Lw w) : Calls Tryd.prog 37 #[.string s] w fun e w' => ∃ n ev, e = .returned (.tuple #[.int .i64 n, ev]) ∧ (ev = .nilIface ∧ Lib.atoiAll s.data.toList = .ok n ∨ (∃ tp p, ev = .iface tp p) ∧ ∀ v, Lib.atoiAll s.data.toList ≠ .ok v) ∧ RowKit.Below w.heap.size w w' := by
  obtain ⟨_, ⟨t1, p1, h1⟩, ⟨t2, p2, h2⟩⟩ := hT
  cases h : Lib.atoiAll s.data.toList
  · rename_i v
    refine (Any.strconv_Atoi_ok lAtoi s (by omega) v h w).mono fun e w' ⟨he, hw⟩ => ?_
    refine ⟨v, .nilIface, he, .inl ⟨rfl, rfl⟩, ?_⟩
    rcases hw with rfl | ⟨t, rfl⟩
    · exact RowKit.Below.refl _ _
    · exact Lib.bytesWorld_below _ _ _
  · refine (Any.strconv_Atoi_syntax_var lAtoi s hs h t1 p1 w h1).mono fun e w' ⟨N, he, _, _, hb⟩ => ?_
    exact ⟨_, _, he, .inr ⟨⟨_, _, rfl⟩, fun v e => by cases e⟩, hb⟩
  · refine (Any.strconv_Atoi_range_var lAtoi s hs h t2 p2 w h2).mono fun e w' ⟨N, he, _, _, hb⟩ => ?_
    exact ⟨_, _, he, .inr ⟨⟨_, _, rfl⟩, fun v e => by cases e⟩, hb⟩
theorem tab_of_laid {a b : String × DataW Unit} {r : List (String × DataW Unit)} {W : World} (h : laidMet Tryd.prog (a :: b :: ("internal/strconv.uint64pow10", Rows.laid_internal_strconv_uint64pow10) :: r) W) : Tab W :=
  Lib.tabIs_of_head (g := 2) (t := 85) (e := 72) (n := 20) (by kernel_rfl) (by kernel_rfl) Tryd.underlying85 Tryd.underlying72 (by kernel_rfl) (by kernel_rfl) (show laidMet Tryd.prog (("internal/strconv.uint64pow10", Lib.tabData .u64 Lib.pow10Tab) :: r) W from h.tail.tail)
theorem star : "*" ++ "errors.errorString" = "*errors.errorString" := by decide
/-- The one row of that name. -/
theorem row91 (u : TypeId) (h : Tryd.prog.typeName? 3 u = some "*errors.errorString") : u = 91 :=
  typeName_ptr_named (nm := "errors.errorString") (by rw [star]; kernel_rfl) (by kernel_rfl) (by decide) u (by rw [star]; exact h)
theorem lw_of_laid {a b : String × DataW Unit} {r : List (String × DataW Unit)} {W : World} (h : laidMet Tryd.prog (a :: b :: ("internal/strconv.uint64pow10", Rows.laid_internal_strconv_uint64pow10) :: ("strconv.ErrRange", Rows.laid_strconv_ErrRange) :: ("strconv.ErrSyntax", Rows.laid_strconv_ErrSyntax) :: r) W) : Lw W := by
  obtain ⟨a0, _, h0, _⟩ := laid_sentinel (P := Tryd.prog) h.tail.tail.tail (g := 1) (ti := 48) (tp := 91) (te := 93) (ts := 9) (by kernel_rfl) (by kernel_rfl) Tryd.underlying48 row91 Tryd.underlying91 Tryd.underlying93 rfl rfl Tryd.underlying9 (by kernel_rfl) (by kernel_rfl)
  obtain ⟨a1, _, h1, _⟩ := laid_sentinel (P := Tryd.prog) h.tail.tail.tail.tail (g := 0) (ti := 48) (tp := 91) (te := 93) (ts := 9) (by kernel_rfl) (by kernel_rfl) Tryd.underlying48 row91 Tryd.underlying91 Tryd.underlying93 rfl rfl Tryd.underlying9 (by kernel_rfl) (by kernel_rfl)
  exact ⟨tab_of_laid h, ⟨_, _, h1⟩, ⟨_, _, h0⟩⟩

end Go.Proofs.YtdedhnlgjegbhaaDoor.Shelf
