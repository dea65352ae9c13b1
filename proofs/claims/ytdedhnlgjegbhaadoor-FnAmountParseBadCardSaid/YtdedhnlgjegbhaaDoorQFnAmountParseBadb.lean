/- The words of the walks behind FnAmountParseBad. -/
import Derived.Test.YtdedhnlgjegbhaaDoorProg
import Derived.Below
import Derived.Deep.Draws
import Derived.Deep.AppendLies
import Derived.Maps.AppendAt
import Derived.OwnWalk
import Derived.Laws.BytesArg
import Derived.Laws.MakeOwn
import Derived.Laws.OwnMore
import Derived.Deep.OwnRows
import Derived.Tactics
import Derived.Lib.ConvBytes
import Derived.Laws.Slices
import Derived.WalkKit
import Derived.KernelRfl
import Derived.RowKit3
import Derived.Deep.LoopGhost
import Derived.Deep.QuietTactic
import Derived.BigQuiet
import Derived.WideLaws
import Derived.Deep.DeepCutAuto
import Derived.Deep.CutBlock
import Derived.Deep.RegionHeld3
import Derived.Laws.Rows
import Derived.Lib.AppendStr
import Derived.ArgAppend
import Derived.Laws.IdiomCopy
import Derived.OrdersHeld
import Derived.Laws.BitsLemmas
import Derived.RowKit
import Derived.Test.YtdedhnlgjegbhaaDoorWWords
import Derived.Test.YtdedhnlgjegbhaaDoorWLast
import Derived.Test.YtdedhnlgjegbhaaDoorWTab
import Derived.Test.YtdedhnlgjegbhaaDoorWFour
import Derived.Test.YtdedhnlgjegbhaaDoorWQPut
import Derived.Test.YtdedhnlgjegbhaaDoorWApart
import Derived.Test.YtdedhnlgjegbhaaDoorWArr
import Derived.Test.YtdedhnlgjegbhaaDoorWZeros
import Derived.Test.YtdedhnlgjegbhaaDoorWFoot
import Derived.Test.YtdedhnlgjegbhaaDoorWKept
import Derived.Test.YtdedhnlgjegbhaaDoorWShare
import Derived.Test.YtdedhnlgjegbhaaDoorWN
import Derived.Test.YtdedhnlgjegbhaaDoorWFootNe
import Derived.Test.YtdedhnlgjegbhaaDoorWAt
import Derived.Test.YtdedhnlgjegbhaaDoorWEqStruct
import Derived.Test.YtdedhnlgjegbhaaDoorWRepsOne
import Derived.Test.YtdedhnlgjegbhaaDoorWInv
import Derived.Test.YtdedhnlgjegbhaaDoorWInvWords
import Derived.Test.YtdedhnlgjegbhaaDoorWGuard
import Derived.Test.YtdedhnlgjegbhaaDoorWNEv
import Derived.Test.YtdedhnlgjegbhaaDoorWMore
namespace Go.Proofs.YtdedhnlgjegbhaaDoor.PFnAmountParseBad
open Go.RowKit Go.Proofs.YtdedhnlgjegbhaaDoorW.PrintWords Go.Proofs.YtdedhnlgjegbhaaDoorW.PrintLast Go.Proofs.YtdedhnlgjegbhaaDoorW.PrintMore
attribute [local go_sem] max2_int min2_int max_two min_two max_three min_three max_four min_four   -- for this text's walks alone
set_option linter.unusedVariables false
set_option linter.unusedSimpArgs false



def errW : Option Int → Value
  | none => .nilIface
  | some c => .iface 65 (.int .i64 c)
theorem errW_none : errW none = .nilIface := rfl
theorem errW_some (c : Int) : errW (some c) = .iface 65 (.int .i64 c) := rfl

theorem info3 : (Tryd.prog.info? 3).map (fun i => (i.zero, i.size, i.bytes)) = some (some (.int .i64 0), 1, 8) := by kernel_rfl
theorem info5 : (Tryd.prog.info? 5).map (fun i => (i.zero, i.size, i.bytes)) = some (some (.int .u8 0), 1, 1) := by kernel_rfl
theorem info9 : (Tryd.prog.info? 9).map (fun i => (i.zero, i.size, i.bytes)) = some (some (.string ⟨#[]⟩), 1, 16) := by kernel_rfl
-- the values' own types

end Go.Proofs.YtdedhnlgjegbhaaDoor.PFnAmountParseBad
