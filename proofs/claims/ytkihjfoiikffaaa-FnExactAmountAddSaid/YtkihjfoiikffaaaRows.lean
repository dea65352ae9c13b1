/-
  No cell of these rows narrows 'for every input' (looked for: loops, veiled, ifaces, maps, wideKeys, modest, calm, conditions, laid).
  DERIVED. THE GIVEN ROWS OF THIS SEAT. 12 by the template 'for every input the law returns true; each argument reads behind the call as it read before'; 0 by the template 'total and deterministic' (their statements: YtkihjfoiikffaaaTotals.lean).
  GIVEN WITH THE SEED: the statements are not yours to turn. If you find one false, say at which input.
  Laid BY PROGRAM, IN A SANDBOX (cutbox-rows.mjs): the forced cells as the released guide's own fill.sh prints them over the translation 9ccb8636911ea6ad… (all of the seat's roots in one cut). By AI agents, Wed Nov 11 2026. No macro, syntax, notation, axiom, sorry.
-/
import Derived.Test.YtkihjfoiikffaaaChecked
import GoSem.Claim
import GoSem.ClaimJoined
import GoSem.ClaimMapViews
import Derived.JoinedTies
import Derived.KernelRfl
namespace Go.Proofs.Ytkihjfoiikffaaa
/- THE CELL 'sum', in the pinned program and in every row, IS THE sha256 OF THE DUMP (.gsa) THAT YtkihjfoiikffaaaProg.lean LOADS. Nothing in Lean hashes anything: it is a label: what it is worth is what the hold of that sum in a sandbox is worth. -/
noncomputable def Try.pinned : Pinned := { name := "ytkihjfoiikffaaa", sum := "9ccb8636911ea6ad0b4456a62c0fb9ad0292e51021785aff95943e0148202fa0", checked := Try.checked }
namespace Rows
def none {H : Type} : Left H := { results := [], args := [] }

/-- 'laws.FnExactConstants': WHATEVER THE INPUT: true; the input reads as it did. -/
def fnExactConstantsSpec : ChangeSpec := { name := "fnExactConstants", fn := fun _ => fun
  | [] => { results := [.lit (.bool true)], args := [] }
  | _ => none }
def fnExactConstantsRow : OpenClaim := { program := "ytkihjfoiikffaaa", sum := "9ccb8636911ea6ad0b4456a62c0fb9ad0292e51021785aff95943e0148202fa0", func := "loop.example/messkitchen/laws.FnExactConstants", spec := "fnExactConstants", apart := false }
def FnExactConstantsSaid : Prop := fnExactConstantsRow.holds Try.pinned (OpenSpec.ofChange fnExactConstantsSpec)

/-- ITS FALSE NEIGHBOUR: 'it returns false'. Refute it at one input. -/
def fnExactConstantsWrong : ChangeSpec := { name := "fnExactConstants", fn := fun _ => fun
  | [] => { results := [.lit (.bool false)], args := [] }
  | _ => none }
def FnExactConstantsWrongFalsely : Prop := fnExactConstantsRow.holds Try.pinned (OpenSpec.ofChange fnExactConstantsWrong)

/-- 'laws.FnExactAmountValid': WHATEVER THE INPUT: true; the input reads as it did. -/
def fnExactAmountValidSpec : ChangeSpec := { name := "fnExactAmountValid", fn := fun _ => fun
  | [d] => { results := [.lit (.bool true)], args := [d] }
  | _ => none }
def fnExactAmountValidRow : OpenClaim := { program := "ytkihjfoiikffaaa", sum := "9ccb8636911ea6ad0b4456a62c0fb9ad0292e51021785aff95943e0148202fa0", func := "loop.example/messkitchen/laws.FnExactAmountValid", spec := "fnExactAmountValid", apart := false }
def FnExactAmountValidSaid : Prop := fnExactAmountValidRow.holds Try.pinned (OpenSpec.ofChange fnExactAmountValidSpec)

/-- ITS FALSE NEIGHBOUR: 'it returns false'. Refute it at one input. -/
def fnExactAmountValidWrong : ChangeSpec := { name := "fnExactAmountValid", fn := fun _ => fun
  | [d] => { results := [.lit (.bool false)], args := [d] }
  | _ => none }
def FnExactAmountValidWrongFalsely : Prop := fnExactAmountValidRow.holds Try.pinned (OpenSpec.ofChange fnExactAmountValidWrong)

/-- 'laws.FnExactRoundNear': WHATEVER THE INPUT: true; the input reads as it did. -/
def fnExactRoundNearSpec : ChangeSpec := { name := "fnExactRoundNear", fn := fun _ => fun
  | [d1, d2] => { results := [.lit (.bool true)], args := [d1, d2] }
  | _ => none }
def fnExactRoundNearRow : OpenClaim := { program := "ytkihjfoiikffaaa", sum := "9ccb8636911ea6ad0b4456a62c0fb9ad0292e51021785aff95943e0148202fa0", func := "loop.example/messkitchen/laws.FnExactRoundNear", spec := "fnExactRoundNear", apart := false }
def FnExactRoundNearSaid : Prop := fnExactRoundNearRow.holds Try.pinned (OpenSpec.ofChange fnExactRoundNearSpec)

/-- ITS FALSE NEIGHBOUR: 'it returns false'. Refute it at one input. -/
def fnExactRoundNearWrong : ChangeSpec := { name := "fnExactRoundNear", fn := fun _ => fun
  | [d1, d2] => { results := [.lit (.bool false)], args := [d1, d2] }
  | _ => none }
def FnExactRoundNearWrongFalsely : Prop := fnExactRoundNearRow.holds Try.pinned (OpenSpec.ofChange fnExactRoundNearWrong)

/-- 'laws.FnExactPacksFor': WHATEVER THE INPUT: true; the input reads as it did. -/
def fnExactPacksForSpec : ChangeSpec := { name := "fnExactPacksFor", fn := fun _ => fun
  | [d1, d2] => { results := [.lit (.bool true)], args := [d1, d2] }
  | _ => none }
def fnExactPacksForRow : OpenClaim := { program := "ytkihjfoiikffaaa", sum := "9ccb8636911ea6ad0b4456a62c0fb9ad0292e51021785aff95943e0148202fa0", func := "loop.example/messkitchen/laws.FnExactPacksFor", spec := "fnExactPacksFor", apart := false }
def FnExactPacksForSaid : Prop := fnExactPacksForRow.holds Try.pinned (OpenSpec.ofChange fnExactPacksForSpec)

/-- ITS FALSE NEIGHBOUR: 'it returns false'. Refute it at one input. -/
def fnExactPacksForWrong : ChangeSpec := { name := "fnExactPacksFor", fn := fun _ => fun
  | [d1, d2] => { results := [.lit (.bool false)], args := [d1, d2] }
  | _ => none }
def FnExactPacksForWrongFalsely : Prop := fnExactPacksForRow.holds Try.pinned (OpenSpec.ofChange fnExactPacksForWrong)

/-- 'laws.FnExactPacksLeft': WHATEVER THE INPUT: true; the input reads as it did. -/
def fnExactPacksLeftSpec : ChangeSpec := { name := "fnExactPacksLeft", fn := fun _ => fun
  | [d1, d2] => { results := [.lit (.bool true)], args := [d1, d2] }
  | _ => none }
def fnExactPacksLeftRow : OpenClaim := { program := "ytkihjfoiikffaaa", sum := "9ccb8636911ea6ad0b4456a62c0fb9ad0292e51021785aff95943e0148202fa0", func := "loop.example/messkitchen/laws.FnExactPacksLeft", spec := "fnExactPacksLeft", apart := false }
def FnExactPacksLeftSaid : Prop := fnExactPacksLeftRow.holds Try.pinned (OpenSpec.ofChange fnExactPacksLeftSpec)

/-- ITS FALSE NEIGHBOUR: 'it returns false'. Refute it at one input. -/
def fnExactPacksLeftWrong : ChangeSpec := { name := "fnExactPacksLeft", fn := fun _ => fun
  | [d1, d2] => { results := [.lit (.bool false)], args := [d1, d2] }
  | _ => none }
def FnExactPacksLeftWrongFalsely : Prop := fnExactPacksLeftRow.holds Try.pinned (OpenSpec.ofChange fnExactPacksLeftWrong)

/-- 'laws.FnExactAmountAdd': WHATEVER THE INPUT: true; the input reads as it did. -/
def fnExactAmountAddSpec : ChangeSpec := { name := "fnExactAmountAdd", fn := fun _ => fun
  | [d1, d2] => { results := [.lit (.bool true)], args := [d1, d2] }
  | _ => none }
def fnExactAmountAddRow : OpenClaim := { program := "ytkihjfoiikffaaa", sum := "9ccb8636911ea6ad0b4456a62c0fb9ad0292e51021785aff95943e0148202fa0", func := "loop.example/messkitchen/laws.FnExactAmountAdd", spec := "fnExactAmountAdd", apart := false }
def FnExactAmountAddSaid : Prop := fnExactAmountAddRow.holds Try.pinned (OpenSpec.ofChange fnExactAmountAddSpec)

/-- ITS FALSE NEIGHBOUR: 'it returns false'. Refute it at one input. -/
def fnExactAmountAddWrong : ChangeSpec := { name := "fnExactAmountAdd", fn := fun _ => fun
  | [d1, d2] => { results := [.lit (.bool false)], args := [d1, d2] }
  | _ => none }
def FnExactAmountAddWrongFalsely : Prop := fnExactAmountAddRow.holds Try.pinned (OpenSpec.ofChange fnExactAmountAddWrong)

/-- 'laws.FnExactAllergensJoin': WHATEVER THE INPUT: true; the input reads as it did. -/
def fnExactAllergensJoinSpec : ChangeSpec := { name := "fnExactAllergensJoin", fn := fun _ => fun
  | [d1, d2] => { results := [.lit (.bool true)], args := [d1, d2] }
  | _ => none }
def fnExactAllergensJoinRow : OpenClaim := { program := "ytkihjfoiikffaaa", sum := "9ccb8636911ea6ad0b4456a62c0fb9ad0292e51021785aff95943e0148202fa0", func := "loop.example/messkitchen/laws.FnExactAllergensJoin", spec := "fnExactAllergensJoin", apart := false }
def FnExactAllergensJoinSaid : Prop := fnExactAllergensJoinRow.holds Try.pinned (OpenSpec.ofChange fnExactAllergensJoinSpec)

/-- ITS FALSE NEIGHBOUR: 'it returns false'. Refute it at one input. -/
def fnExactAllergensJoinWrong : ChangeSpec := { name := "fnExactAllergensJoin", fn := fun _ => fun
  | [d1, d2] => { results := [.lit (.bool false)], args := [d1, d2] }
  | _ => none }
def FnExactAllergensJoinWrongFalsely : Prop := fnExactAllergensJoinRow.holds Try.pinned (OpenSpec.ofChange fnExactAllergensJoinWrong)

/-- 'laws.FnExactAllergensMeet': WHATEVER THE INPUT: true; the input reads as it did. -/
def fnExactAllergensMeetSpec : ChangeSpec := { name := "fnExactAllergensMeet", fn := fun _ => fun
  | [d1, d2] => { results := [.lit (.bool true)], args := [d1, d2] }
  | _ => none }
def fnExactAllergensMeetRow : OpenClaim := { program := "ytkihjfoiikffaaa", sum := "9ccb8636911ea6ad0b4456a62c0fb9ad0292e51021785aff95943e0148202fa0", func := "loop.example/messkitchen/laws.FnExactAllergensMeet", spec := "fnExactAllergensMeet", apart := false }
def FnExactAllergensMeetSaid : Prop := fnExactAllergensMeetRow.holds Try.pinned (OpenSpec.ofChange fnExactAllergensMeetSpec)

/-- ITS FALSE NEIGHBOUR: 'it returns false'. Refute it at one input. -/
def fnExactAllergensMeetWrong : ChangeSpec := { name := "fnExactAllergensMeet", fn := fun _ => fun
  | [d1, d2] => { results := [.lit (.bool false)], args := [d1, d2] }
  | _ => none }
def FnExactAllergensMeetWrongFalsely : Prop := fnExactAllergensMeetRow.holds Try.pinned (OpenSpec.ofChange fnExactAllergensMeetWrong)

/-- 'laws.FnExactAllergensText': WHATEVER THE INPUT: true; the input reads as it did. -/
def fnExactAllergensTextSpec : ChangeSpec := { name := "fnExactAllergensText", fn := fun _ => fun
  | [d] => { results := [.lit (.bool true)], args := [d] }
  | _ => none }
def fnExactAllergensTextRow : OpenClaim := { program := "ytkihjfoiikffaaa", sum := "9ccb8636911ea6ad0b4456a62c0fb9ad0292e51021785aff95943e0148202fa0", func := "loop.example/messkitchen/laws.FnExactAllergensText", spec := "fnExactAllergensText", apart := false }
def FnExactAllergensTextSaid : Prop := fnExactAllergensTextRow.holds Try.pinned (OpenSpec.ofChange fnExactAllergensTextSpec)

/-- ITS FALSE NEIGHBOUR: 'it returns false'. Refute it at one input. -/
def fnExactAllergensTextWrong : ChangeSpec := { name := "fnExactAllergensText", fn := fun _ => fun
  | [d] => { results := [.lit (.bool false)], args := [d] }
  | _ => none }
def FnExactAllergensTextWrongFalsely : Prop := fnExactAllergensTextRow.holds Try.pinned (OpenSpec.ofChange fnExactAllergensTextWrong)

/-- 'laws.FnExactAmountScale': WHATEVER THE INPUT: true; the input reads as it did. -/
def fnExactAmountScaleSpec : ChangeSpec := { name := "fnExactAmountScale", fn := fun _ => fun
  | [d1, d2, d3] => { results := [.lit (.bool true)], args := [d1, d2, d3] }
  | _ => none }
def fnExactAmountScaleRow : OpenClaim := { program := "ytkihjfoiikffaaa", sum := "9ccb8636911ea6ad0b4456a62c0fb9ad0292e51021785aff95943e0148202fa0", func := "loop.example/messkitchen/laws.FnExactAmountScale", spec := "fnExactAmountScale", apart := false }
def FnExactAmountScaleSaid : Prop := fnExactAmountScaleRow.holds Try.pinned (OpenSpec.ofChange fnExactAmountScaleSpec)

/-- ITS FALSE NEIGHBOUR: 'it returns false'. Refute it at one input. -/
def fnExactAmountScaleWrong : ChangeSpec := { name := "fnExactAmountScale", fn := fun _ => fun
  | [d1, d2, d3] => { results := [.lit (.bool false)], args := [d1, d2, d3] }
  | _ => none }
def FnExactAmountScaleWrongFalsely : Prop := fnExactAmountScaleRow.holds Try.pinned (OpenSpec.ofChange fnExactAmountScaleWrong)

/-- 'laws.FnRoundNear': WHATEVER THE INPUT: true; the input reads as it did. -/
def fnRoundNearSpec : ChangeSpec := { name := "fnRoundNear", fn := fun _ => fun
  | [d] => { results := [.lit (.bool true)], args := [d] }
  | _ => none }
def fnRoundNearRow : OpenClaim := { program := "ytkihjfoiikffaaa", sum := "9ccb8636911ea6ad0b4456a62c0fb9ad0292e51021785aff95943e0148202fa0", func := "loop.example/messkitchen/laws.FnRoundNear", spec := "fnRoundNear", apart := false }
def FnRoundNearSaid : Prop := fnRoundNearRow.holds Try.pinned (OpenSpec.ofChange fnRoundNearSpec)

/-- ITS FALSE NEIGHBOUR: 'it returns false'. Refute it at one input. -/
def fnRoundNearWrong : ChangeSpec := { name := "fnRoundNear", fn := fun _ => fun
  | [d] => { results := [.lit (.bool false)], args := [d] }
  | _ => none }
def FnRoundNearWrongFalsely : Prop := fnRoundNearRow.holds Try.pinned (OpenSpec.ofChange fnRoundNearWrong)

/-- 'laws.FnRoundTwice': WHATEVER THE INPUT: true; the input reads as it did. -/
def fnRoundTwiceSpec : ChangeSpec := { name := "fnRoundTwice", fn := fun _ => fun
  | [d] => { results := [.lit (.bool true)], args := [d] }
  | _ => none }
def fnRoundTwiceRow : OpenClaim := { program := "ytkihjfoiikffaaa", sum := "9ccb8636911ea6ad0b4456a62c0fb9ad0292e51021785aff95943e0148202fa0", func := "loop.example/messkitchen/laws.FnRoundTwice", spec := "fnRoundTwice", apart := false }
def FnRoundTwiceSaid : Prop := fnRoundTwiceRow.holds Try.pinned (OpenSpec.ofChange fnRoundTwiceSpec)

/-- ITS FALSE NEIGHBOUR: 'it returns false'. Refute it at one input. -/
def fnRoundTwiceWrong : ChangeSpec := { name := "fnRoundTwice", fn := fun _ => fun
  | [d] => { results := [.lit (.bool false)], args := [d] }
  | _ => none }
def FnRoundTwiceWrongFalsely : Prop := fnRoundTwiceRow.holds Try.pinned (OpenSpec.ofChange fnRoundTwiceWrong)

/- THE SECOND FORM. 'bulk': how many values and letters a reading holds, each counted each time it is reached (what is shared counts as often as it is met; a slice's spare places count too). A statement '..UptoSaid' is the law's where the arguments, and the package variables that the reading takes, are together of bulk at most 1048576: NARROWER than '..Said'. Prove '..Said' where nothing that the law and all that it calls make is longer than what came in: it says more and counts as full. Else prove '..UptoSaid'. A law counts once. -/
mutual
def uptoBulk {H : Type} : DataW H → Nat
  | .lit (.string bytes) => bytes.length + 1
  | .lit _ => 1
  | .nil => 1
  | .ptr d => uptoBulk d + 1
  | .slice elems spare => uptoBulkAll elems + uptoBulkAll spare + 1
  | .agg parts => uptoBulkAll parts + 1
  | .iface _ d => uptoBulk d + 1
  | .map entries => uptoBulkEntries entries + 1
  | .held _ => 1
def uptoBulkAll {H : Type} : List (DataW H) → Nat
  | [] => 0
  | d :: r => uptoBulk d + uptoBulkAll r
def uptoBulkEntries {H : Type} : List (Lit × DataW H) → Nat
  | [] => 0
  | x :: r => uptoBulkEntry x + uptoBulkEntries r
def uptoBulkEntry {H : Type} : Lit × DataW H → Nat
  | (.string bytes, d) => bytes.length + uptoBulk d + 1
  | (_, d) => uptoBulk d + 1
 end
def uptoSmall : (H : Type) → List (DataW H) → Bool := fun _ ds => decide (uptoBulkAll ds ≤ 1048576)
def OpenSpec.upto (s : _root_.Go.ChangeSpec) : _root_.Go.OpenSpec := { _root_.Go.OpenSpec.ofChange s with cond := some uptoSmall }

/-- 'laws.FnExactConstants', WHERE WHAT IT READS IS OF BULK AT MOST 1048576: true; the input reads as it did. -/
def fnExactConstantsUptoRow : OpenClaim := { program := "ytkihjfoiikffaaa", sum := "9ccb8636911ea6ad0b4456a62c0fb9ad0292e51021785aff95943e0148202fa0", func := "loop.example/messkitchen/laws.FnExactConstants", spec := "fnExactConstants", apart := false, narrowed := true }
def FnExactConstantsUptoSaid : Prop := fnExactConstantsUptoRow.holds Try.pinned (OpenSpec.upto fnExactConstantsSpec)

/-- 'laws.FnExactAmountValid', WHERE WHAT IT READS IS OF BULK AT MOST 1048576: true; the input reads as it did. -/
def fnExactAmountValidUptoRow : OpenClaim := { program := "ytkihjfoiikffaaa", sum := "9ccb8636911ea6ad0b4456a62c0fb9ad0292e51021785aff95943e0148202fa0", func := "loop.example/messkitchen/laws.FnExactAmountValid", spec := "fnExactAmountValid", apart := false, narrowed := true }
def FnExactAmountValidUptoSaid : Prop := fnExactAmountValidUptoRow.holds Try.pinned (OpenSpec.upto fnExactAmountValidSpec)

/-- 'laws.FnExactRoundNear', WHERE WHAT IT READS IS OF BULK AT MOST 1048576: true; the input reads as it did. -/
def fnExactRoundNearUptoRow : OpenClaim := { program := "ytkihjfoiikffaaa", sum := "9ccb8636911ea6ad0b4456a62c0fb9ad0292e51021785aff95943e0148202fa0", func := "loop.example/messkitchen/laws.FnExactRoundNear", spec := "fnExactRoundNear", apart := false, narrowed := true }
def FnExactRoundNearUptoSaid : Prop := fnExactRoundNearUptoRow.holds Try.pinned (OpenSpec.upto fnExactRoundNearSpec)

/-- 'laws.FnExactPacksFor', WHERE WHAT IT READS IS OF BULK AT MOST 1048576: true; the input reads as it did. -/
def fnExactPacksForUptoRow : OpenClaim := { program := "ytkihjfoiikffaaa", sum := "9ccb8636911ea6ad0b4456a62c0fb9ad0292e51021785aff95943e0148202fa0", func := "loop.example/messkitchen/laws.FnExactPacksFor", spec := "fnExactPacksFor", apart := false, narrowed := true }
def FnExactPacksForUptoSaid : Prop := fnExactPacksForUptoRow.holds Try.pinned (OpenSpec.upto fnExactPacksForSpec)

/-- 'laws.FnExactPacksLeft', WHERE WHAT IT READS IS OF BULK AT MOST 1048576: true; the input reads as it did. -/
def fnExactPacksLeftUptoRow : OpenClaim := { program := "ytkihjfoiikffaaa", sum := "9ccb8636911ea6ad0b4456a62c0fb9ad0292e51021785aff95943e0148202fa0", func := "loop.example/messkitchen/laws.FnExactPacksLeft", spec := "fnExactPacksLeft", apart := false, narrowed := true }
def FnExactPacksLeftUptoSaid : Prop := fnExactPacksLeftUptoRow.holds Try.pinned (OpenSpec.upto fnExactPacksLeftSpec)

/-- 'laws.FnExactAmountAdd', WHERE WHAT IT READS IS OF BULK AT MOST 1048576: true; the input reads as it did. -/
def fnExactAmountAddUptoRow : OpenClaim := { program := "ytkihjfoiikffaaa", sum := "9ccb8636911ea6ad0b4456a62c0fb9ad0292e51021785aff95943e0148202fa0", func := "loop.example/messkitchen/laws.FnExactAmountAdd", spec := "fnExactAmountAdd", apart := false, narrowed := true }
def FnExactAmountAddUptoSaid : Prop := fnExactAmountAddUptoRow.holds Try.pinned (OpenSpec.upto fnExactAmountAddSpec)

/-- 'laws.FnExactAllergensJoin', WHERE WHAT IT READS IS OF BULK AT MOST 1048576: true; the input reads as it did. -/
def fnExactAllergensJoinUptoRow : OpenClaim := { program := "ytkihjfoiikffaaa", sum := "9ccb8636911ea6ad0b4456a62c0fb9ad0292e51021785aff95943e0148202fa0", func := "loop.example/messkitchen/laws.FnExactAllergensJoin", spec := "fnExactAllergensJoin", apart := false, narrowed := true }
def FnExactAllergensJoinUptoSaid : Prop := fnExactAllergensJoinUptoRow.holds Try.pinned (OpenSpec.upto fnExactAllergensJoinSpec)

/-- 'laws.FnExactAllergensMeet', WHERE WHAT IT READS IS OF BULK AT MOST 1048576: true; the input reads as it did. -/
def fnExactAllergensMeetUptoRow : OpenClaim := { program := "ytkihjfoiikffaaa", sum := "9ccb8636911ea6ad0b4456a62c0fb9ad0292e51021785aff95943e0148202fa0", func := "loop.example/messkitchen/laws.FnExactAllergensMeet", spec := "fnExactAllergensMeet", apart := false, narrowed := true }
def FnExactAllergensMeetUptoSaid : Prop := fnExactAllergensMeetUptoRow.holds Try.pinned (OpenSpec.upto fnExactAllergensMeetSpec)

/-- 'laws.FnExactAllergensText', WHERE WHAT IT READS IS OF BULK AT MOST 1048576: true; the input reads as it did. -/
def fnExactAllergensTextUptoRow : OpenClaim := { program := "ytkihjfoiikffaaa", sum := "9ccb8636911ea6ad0b4456a62c0fb9ad0292e51021785aff95943e0148202fa0", func := "loop.example/messkitchen/laws.FnExactAllergensText", spec := "fnExactAllergensText", apart := false, narrowed := true }
def FnExactAllergensTextUptoSaid : Prop := fnExactAllergensTextUptoRow.holds Try.pinned (OpenSpec.upto fnExactAllergensTextSpec)

/-- 'laws.FnExactAmountScale', WHERE WHAT IT READS IS OF BULK AT MOST 1048576: true; the input reads as it did. -/
def fnExactAmountScaleUptoRow : OpenClaim := { program := "ytkihjfoiikffaaa", sum := "9ccb8636911ea6ad0b4456a62c0fb9ad0292e51021785aff95943e0148202fa0", func := "loop.example/messkitchen/laws.FnExactAmountScale", spec := "fnExactAmountScale", apart := false, narrowed := true }
def FnExactAmountScaleUptoSaid : Prop := fnExactAmountScaleUptoRow.holds Try.pinned (OpenSpec.upto fnExactAmountScaleSpec)

/-- 'laws.FnRoundNear', WHERE WHAT IT READS IS OF BULK AT MOST 1048576: true; the input reads as it did. -/
def fnRoundNearUptoRow : OpenClaim := { program := "ytkihjfoiikffaaa", sum := "9ccb8636911ea6ad0b4456a62c0fb9ad0292e51021785aff95943e0148202fa0", func := "loop.example/messkitchen/laws.FnRoundNear", spec := "fnRoundNear", apart := false, narrowed := true }
def FnRoundNearUptoSaid : Prop := fnRoundNearUptoRow.holds Try.pinned (OpenSpec.upto fnRoundNearSpec)

/-- 'laws.FnRoundTwice', WHERE WHAT IT READS IS OF BULK AT MOST 1048576: true; the input reads as it did. -/
def fnRoundTwiceUptoRow : OpenClaim := { program := "ytkihjfoiikffaaa", sum := "9ccb8636911ea6ad0b4456a62c0fb9ad0292e51021785aff95943e0148202fa0", func := "loop.example/messkitchen/laws.FnRoundTwice", spec := "fnRoundTwice", apart := false, narrowed := true }
def FnRoundTwiceUptoSaid : Prop := fnRoundTwiceUptoRow.holds Try.pinned (OpenSpec.upto fnRoundTwiceSpec)

end Rows
end Go.Proofs.Ytkihjfoiikffaaa
