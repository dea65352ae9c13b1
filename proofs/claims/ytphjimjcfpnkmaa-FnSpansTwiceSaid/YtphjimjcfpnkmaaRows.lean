/-
  No cell of these rows narrows 'for every input' (looked for: loops, veiled, ifaces, maps, wideKeys, modest, calm, conditions, laid).
  DERIVED. THE GIVEN ROWS OF THIS SEAT. 7 by the template 'for every input the law returns true; each argument reads behind the call as it read before'; 0 by the template 'total and deterministic' (their statements: YtphjimjcfpnkmaaTotals.lean).
  GIVEN WITH THE SEED: the statements are not yours to turn. If you find one false, say at which input.
  Laid BY PROGRAM, IN A SANDBOX (cutbox-rows.mjs): the forced cells as the released guide's own fill.sh prints them over the translation 66dfb95f41758e99… (all of the seat's roots in one cut). By AI agents, Wed Nov 11 2026. No macro, syntax, notation, axiom, sorry.
-/
import Derived.Test.YtphjimjcfpnkmaaChecked
import GoSem.Claim
import GoSem.ClaimJoined
import GoSem.ClaimMapViews
import Derived.JoinedTies
import Derived.KernelRfl
namespace Go.Proofs.Ytphjimjcfpnkmaa
/- THE CELL 'sum', in the pinned program and in every row, IS THE sha256 OF THE DUMP (.gsa) THAT YtphjimjcfpnkmaaProg.lean LOADS. Nothing in Lean hashes anything: it is a label: what it is worth is what the hold of that sum in a sandbox is worth. -/
noncomputable def Try.pinned : Pinned := { name := "ytphjimjcfpnkmaa", sum := "66dfb95f41758e99006a8b7b9d8055f9cfb6b06df49930a57ffd95ebd7281e1d", checked := Try.checked }
namespace Rows
def none {H : Type} : Left H := { results := [], args := [] }

/-- 'laws.FnSpansTwice': WHATEVER THE INPUT: true; the input reads as it did. -/
def fnSpansTwiceSpec : ChangeSpec := { name := "fnSpansTwice", fn := fun _ => fun
  | [d] => { results := [.lit (.bool true)], args := [d] }
  | _ => none }
def fnSpansTwiceRow : OpenClaim := { program := "ytphjimjcfpnkmaa", sum := "66dfb95f41758e99006a8b7b9d8055f9cfb6b06df49930a57ffd95ebd7281e1d", func := "loop.example/messkitchen/laws.FnSpansTwice", spec := "fnSpansTwice", unfollowed := true, recurses := true, apart := false }
def FnSpansTwiceSaid : Prop := fnSpansTwiceRow.holds Try.pinned (OpenSpec.ofChange fnSpansTwiceSpec)

/-- ITS FALSE NEIGHBOUR: 'it returns false'. Refute it at one input. -/
def fnSpansTwiceWrong : ChangeSpec := { name := "fnSpansTwice", fn := fun _ => fun
  | [d] => { results := [.lit (.bool false)], args := [d] }
  | _ => none }
def FnSpansTwiceWrongFalsely : Prop := fnSpansTwiceRow.holds Try.pinned (OpenSpec.ofChange fnSpansTwiceWrong)

/-- 'laws.FnExactSpansFree': WHATEVER THE INPUT: true; the input reads as it did. -/
def fnExactSpansFreeSpec : ChangeSpec := { name := "fnExactSpansFree", fn := fun _ => fun
  | [d1, d2] => { results := [.lit (.bool true)], args := [d1, d2] }
  | _ => none }
def fnExactSpansFreeRow : OpenClaim := { program := "ytphjimjcfpnkmaa", sum := "66dfb95f41758e99006a8b7b9d8055f9cfb6b06df49930a57ffd95ebd7281e1d", func := "loop.example/messkitchen/laws.FnExactSpansFree", spec := "fnExactSpansFree", unfollowed := true, recurses := true, apart := false }
def FnExactSpansFreeSaid : Prop := fnExactSpansFreeRow.holds Try.pinned (OpenSpec.ofChange fnExactSpansFreeSpec)

/-- ITS FALSE NEIGHBOUR: 'it returns false'. Refute it at one input. -/
def fnExactSpansFreeWrong : ChangeSpec := { name := "fnExactSpansFree", fn := fun _ => fun
  | [d1, d2] => { results := [.lit (.bool false)], args := [d1, d2] }
  | _ => none }
def FnExactSpansFreeWrongFalsely : Prop := fnExactSpansFreeRow.holds Try.pinned (OpenSpec.ofChange fnExactSpansFreeWrong)

/-- 'laws.FnExactSpansJoin': WHATEVER THE INPUT: true; the input reads as it did. -/
def fnExactSpansJoinSpec : ChangeSpec := { name := "fnExactSpansJoin", fn := fun _ => fun
  | [d] => { results := [.lit (.bool true)], args := [d] }
  | _ => none }
def fnExactSpansJoinRow : OpenClaim := { program := "ytphjimjcfpnkmaa", sum := "66dfb95f41758e99006a8b7b9d8055f9cfb6b06df49930a57ffd95ebd7281e1d", func := "loop.example/messkitchen/laws.FnExactSpansJoin", spec := "fnExactSpansJoin", unfollowed := true, recurses := true, apart := false }
def FnExactSpansJoinSaid : Prop := fnExactSpansJoinRow.holds Try.pinned (OpenSpec.ofChange fnExactSpansJoinSpec)

/-- ITS FALSE NEIGHBOUR: 'it returns false'. Refute it at one input. -/
def fnExactSpansJoinWrong : ChangeSpec := { name := "fnExactSpansJoin", fn := fun _ => fun
  | [d] => { results := [.lit (.bool false)], args := [d] }
  | _ => none }
def FnExactSpansJoinWrongFalsely : Prop := fnExactSpansJoinRow.holds Try.pinned (OpenSpec.ofChange fnExactSpansJoinWrong)

/-- 'laws.FnSpansJoin': WHATEVER THE INPUT: true; the input reads as it did. -/
def fnSpansJoinSpec : ChangeSpec := { name := "fnSpansJoin", fn := fun _ => fun
  | [d] => { results := [.lit (.bool true)], args := [d] }
  | _ => none }
def fnSpansJoinRow : OpenClaim := { program := "ytphjimjcfpnkmaa", sum := "66dfb95f41758e99006a8b7b9d8055f9cfb6b06df49930a57ffd95ebd7281e1d", func := "loop.example/messkitchen/laws.FnSpansJoin", spec := "fnSpansJoin", unfollowed := true, recurses := true, apart := false }
def FnSpansJoinSaid : Prop := fnSpansJoinRow.holds Try.pinned (OpenSpec.ofChange fnSpansJoinSpec)

/-- ITS FALSE NEIGHBOUR: 'it returns false'. Refute it at one input. -/
def fnSpansJoinWrong : ChangeSpec := { name := "fnSpansJoin", fn := fun _ => fun
  | [d] => { results := [.lit (.bool false)], args := [d] }
  | _ => none }
def FnSpansJoinWrongFalsely : Prop := fnSpansJoinRow.holds Try.pinned (OpenSpec.ofChange fnSpansJoinWrong)

/-- 'laws.FnSpansCover': WHATEVER THE INPUT: true; the input reads as it did. -/
def fnSpansCoverSpec : ChangeSpec := { name := "fnSpansCover", fn := fun _ => fun
  | [d] => { results := [.lit (.bool true)], args := [d] }
  | _ => none }
def fnSpansCoverRow : OpenClaim := { program := "ytphjimjcfpnkmaa", sum := "66dfb95f41758e99006a8b7b9d8055f9cfb6b06df49930a57ffd95ebd7281e1d", func := "loop.example/messkitchen/laws.FnSpansCover", spec := "fnSpansCover", unfollowed := true, recurses := true, apart := false }
def FnSpansCoverSaid : Prop := fnSpansCoverRow.holds Try.pinned (OpenSpec.ofChange fnSpansCoverSpec)

/-- ITS FALSE NEIGHBOUR: 'it returns false'. Refute it at one input. -/
def fnSpansCoverWrong : ChangeSpec := { name := "fnSpansCover", fn := fun _ => fun
  | [d] => { results := [.lit (.bool false)], args := [d] }
  | _ => none }
def FnSpansCoverWrongFalsely : Prop := fnSpansCoverRow.holds Try.pinned (OpenSpec.ofChange fnSpansCoverWrong)

/-- 'laws.FnSpansFree': WHATEVER THE INPUT: true; the input reads as it did. -/
def fnSpansFreeSpec : ChangeSpec := { name := "fnSpansFree", fn := fun _ => fun
  | [d] => { results := [.lit (.bool true)], args := [d] }
  | _ => none }
def fnSpansFreeRow : OpenClaim := { program := "ytphjimjcfpnkmaa", sum := "66dfb95f41758e99006a8b7b9d8055f9cfb6b06df49930a57ffd95ebd7281e1d", func := "loop.example/messkitchen/laws.FnSpansFree", spec := "fnSpansFree", unfollowed := true, recurses := true, apart := false }
def FnSpansFreeSaid : Prop := fnSpansFreeRow.holds Try.pinned (OpenSpec.ofChange fnSpansFreeSpec)

/-- ITS FALSE NEIGHBOUR: 'it returns false'. Refute it at one input. -/
def fnSpansFreeWrong : ChangeSpec := { name := "fnSpansFree", fn := fun _ => fun
  | [d] => { results := [.lit (.bool false)], args := [d] }
  | _ => none }
def FnSpansFreeWrongFalsely : Prop := fnSpansFreeRow.holds Try.pinned (OpenSpec.ofChange fnSpansFreeWrong)

/-- 'laws.FnSpansFreeTwice': WHATEVER THE INPUT: true; the input reads as it did. -/
def fnSpansFreeTwiceSpec : ChangeSpec := { name := "fnSpansFreeTwice", fn := fun _ => fun
  | [d] => { results := [.lit (.bool true)], args := [d] }
  | _ => none }
def fnSpansFreeTwiceRow : OpenClaim := { program := "ytphjimjcfpnkmaa", sum := "66dfb95f41758e99006a8b7b9d8055f9cfb6b06df49930a57ffd95ebd7281e1d", func := "loop.example/messkitchen/laws.FnSpansFreeTwice", spec := "fnSpansFreeTwice", unfollowed := true, recurses := true, apart := false }
def FnSpansFreeTwiceSaid : Prop := fnSpansFreeTwiceRow.holds Try.pinned (OpenSpec.ofChange fnSpansFreeTwiceSpec)

/-- ITS FALSE NEIGHBOUR: 'it returns false'. Refute it at one input. -/
def fnSpansFreeTwiceWrong : ChangeSpec := { name := "fnSpansFreeTwice", fn := fun _ => fun
  | [d] => { results := [.lit (.bool false)], args := [d] }
  | _ => none }
def FnSpansFreeTwiceWrongFalsely : Prop := fnSpansFreeTwiceRow.holds Try.pinned (OpenSpec.ofChange fnSpansFreeTwiceWrong)

/- THE SECOND FORM. 'bulk': how many values and letters a reading holds, each counted each time it is reached (what is shared counts as often as it is met; a slice's spare places count too). A statement '..UptoSaid' is the law's where the arguments, and the package variables that the reading takes, are together of bulk at most 1048576: NARROWER than '..Said'. Prove '..Said' where nothing that the law and all that it calls make is longer than what came in: it says more and counts as full. Else prove '..UptoSaid'. A law counts once. -/
mutual
def uptoBulk {H : Type} : DataW H → Nat
  | .lit (.string bytes) => bytes.length + 1
  | .lit _ => 1
  | .nil => 1
  | .ptr d => uptoBulk d + 1
  | .slice elems spare => uptoBulkAll elems + uptoBulkAll spare + 1
  | .agg parts => uptoBulkAll parts + 1
  | .iface _ d => uptoBulk d + 1
  | .map entries => uptoBulkEntries entries + 1
  | .held _ => 1
def uptoBulkAll {H : Type} : List (DataW H) → Nat
  | [] => 0
  | d :: r => uptoBulk d + uptoBulkAll r
def uptoBulkEntries {H : Type} : List (Lit × DataW H) → Nat
  | [] => 0
  | x :: r => uptoBulkEntry x + uptoBulkEntries r
def uptoBulkEntry {H : Type} : Lit × DataW H → Nat
  | (.string bytes, d) => bytes.length + uptoBulk d + 1
  | (_, d) => uptoBulk d + 1
 end
def uptoSmall : (H : Type) → List (DataW H) → Bool := fun _ ds => decide (uptoBulkAll ds ≤ 1048576)
def OpenSpec.upto (s : _root_.Go.ChangeSpec) : _root_.Go.OpenSpec := { _root_.Go.OpenSpec.ofChange s with cond := some uptoSmall }

/-- 'laws.FnSpansTwice', WHERE WHAT IT READS IS OF BULK AT MOST 1048576: true; the input reads as it did. -/
def fnSpansTwiceUptoRow : OpenClaim := { program := "ytphjimjcfpnkmaa", sum := "66dfb95f41758e99006a8b7b9d8055f9cfb6b06df49930a57ffd95ebd7281e1d", func := "loop.example/messkitchen/laws.FnSpansTwice", spec := "fnSpansTwice", unfollowed := true, recurses := true, apart := false, narrowed := true }
def FnSpansTwiceUptoSaid : Prop := fnSpansTwiceUptoRow.holds Try.pinned (OpenSpec.upto fnSpansTwiceSpec)

/-- 'laws.FnExactSpansFree', WHERE WHAT IT READS IS OF BULK AT MOST 1048576: true; the input reads as it did. -/
def fnExactSpansFreeUptoRow : OpenClaim := { program := "ytphjimjcfpnkmaa", sum := "66dfb95f41758e99006a8b7b9d8055f9cfb6b06df49930a57ffd95ebd7281e1d", func := "loop.example/messkitchen/laws.FnExactSpansFree", spec := "fnExactSpansFree", unfollowed := true, recurses := true, apart := false, narrowed := true }
def FnExactSpansFreeUptoSaid : Prop := fnExactSpansFreeUptoRow.holds Try.pinned (OpenSpec.upto fnExactSpansFreeSpec)

/-- 'laws.FnExactSpansJoin', WHERE WHAT IT READS IS OF BULK AT MOST 1048576: true; the input reads as it did. -/
def fnExactSpansJoinUptoRow : OpenClaim := { program := "ytphjimjcfpnkmaa", sum := "66dfb95f41758e99006a8b7b9d8055f9cfb6b06df49930a57ffd95ebd7281e1d", func := "loop.example/messkitchen/laws.FnExactSpansJoin", spec := "fnExactSpansJoin", unfollowed := true, recurses := true, apart := false, narrowed := true }
def FnExactSpansJoinUptoSaid : Prop := fnExactSpansJoinUptoRow.holds Try.pinned (OpenSpec.upto fnExactSpansJoinSpec)

/-- 'laws.FnSpansJoin', WHERE WHAT IT READS IS OF BULK AT MOST 1048576: true; the input reads as it did. -/
def fnSpansJoinUptoRow : OpenClaim := { program := "ytphjimjcfpnkmaa", sum := "66dfb95f41758e99006a8b7b9d8055f9cfb6b06df49930a57ffd95ebd7281e1d", func := "loop.example/messkitchen/laws.FnSpansJoin", spec := "fnSpansJoin", unfollowed := true, recurses := true, apart := false, narrowed := true }
def FnSpansJoinUptoSaid : Prop := fnSpansJoinUptoRow.holds Try.pinned (OpenSpec.upto fnSpansJoinSpec)

/-- 'laws.FnSpansCover', WHERE WHAT IT READS IS OF BULK AT MOST 1048576: true; the input reads as it did. -/
def fnSpansCoverUptoRow : OpenClaim := { program := "ytphjimjcfpnkmaa", sum := "66dfb95f41758e99006a8b7b9d8055f9cfb6b06df49930a57ffd95ebd7281e1d", func := "loop.example/messkitchen/laws.FnSpansCover", spec := "fnSpansCover", unfollowed := true, recurses := true, apart := false, narrowed := true }
def FnSpansCoverUptoSaid : Prop := fnSpansCoverUptoRow.holds Try.pinned (OpenSpec.upto fnSpansCoverSpec)

/-- 'laws.FnSpansFree', WHERE WHAT IT READS IS OF BULK AT MOST 1048576: true; the input reads as it did. -/
def fnSpansFreeUptoRow : OpenClaim := { program := "ytphjimjcfpnkmaa", sum := "66dfb95f41758e99006a8b7b9d8055f9cfb6b06df49930a57ffd95ebd7281e1d", func := "loop.example/messkitchen/laws.FnSpansFree", spec := "fnSpansFree", unfollowed := true, recurses := true, apart := false, narrowed := true }
def FnSpansFreeUptoSaid : Prop := fnSpansFreeUptoRow.holds Try.pinned (OpenSpec.upto fnSpansFreeSpec)

/-- 'laws.FnSpansFreeTwice', WHERE WHAT IT READS IS OF BULK AT MOST 1048576: true; the input reads as it did. -/
def fnSpansFreeTwiceUptoRow : OpenClaim := { program := "ytphjimjcfpnkmaa", sum := "66dfb95f41758e99006a8b7b9d8055f9cfb6b06df49930a57ffd95ebd7281e1d", func := "loop.example/messkitchen/laws.FnSpansFreeTwice", spec := "fnSpansFreeTwice", unfollowed := true, recurses := true, apart := false, narrowed := true }
def FnSpansFreeTwiceUptoSaid : Prop := fnSpansFreeTwiceUptoRow.holds Try.pinned (OpenSpec.upto fnSpansFreeTwiceSpec)

end Rows
end Go.Proofs.Ytphjimjcfpnkmaa
