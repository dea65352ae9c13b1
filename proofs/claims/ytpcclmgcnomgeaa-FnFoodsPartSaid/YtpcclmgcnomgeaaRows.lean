/-
  No cell of these rows narrows 'for every input' (looked for: loops, veiled, ifaces, maps, wideKeys, modest, calm, conditions, laid).
  DERIVED. THE GIVEN ROWS OF THIS SEAT. 12 by the template 'for every input the law returns true; each argument reads behind the call as it read before'; 0 by the template 'total and deterministic' (their statements: YtpcclmgcnomgeaaTotals.lean).
  GIVEN WITH THE SEED: the statements are not yours to turn. If you find one false, say at which input.
  Laid BY PROGRAM, IN A SANDBOX (cutbox-rows.mjs): the forced cells as the released guide's own fill.sh prints them over the translation 83f91e938a262b4d… (all of the seat's roots in one cut). By AI agents, Wed Nov 11 2026. No macro, syntax, notation, axiom, sorry.
-/
import Derived.Test.YtpcclmgcnomgeaaChecked
import GoSem.Claim
import GoSem.ClaimJoined
import GoSem.ClaimMapViews
import Derived.JoinedTies
import Derived.KernelRfl
namespace Go.Proofs.Ytpcclmgcnomgeaa
/- THE CELL 'sum', in the pinned program and in every row, IS THE sha256 OF THE DUMP (.gsa) THAT YtpcclmgcnomgeaaProg.lean LOADS. Nothing in Lean hashes anything: it is a label: what it is worth is what the hold of that sum in a sandbox is worth. -/
noncomputable def Try.pinned : Pinned := { name := "ytpcclmgcnomgeaa", sum := "83f91e938a262b4dc5286bc54f9230a4d3f03459ab3ebcf915a97815ee2a314e", checked := Try.checked }
namespace Rows
def none {H : Type} : Left H := { results := [], args := [] }

/-- 'laws.FnExactVesselsFor': WHATEVER THE INPUT: true; the input reads as it did. -/
def fnExactVesselsForSpec : ChangeSpec := { name := "fnExactVesselsFor", fn := fun _ => fun
  | [d1, d2] => { results := [.lit (.bool true)], args := [d1, d2] }
  | _ => none }
def fnExactVesselsForRow : OpenClaim := { program := "ytpcclmgcnomgeaa", sum := "83f91e938a262b4dc5286bc54f9230a4d3f03459ab3ebcf915a97815ee2a314e", func := "loop.example/messkitchen/laws.FnExactVesselsFor", spec := "fnExactVesselsFor", apart := false }
def FnExactVesselsForSaid : Prop := fnExactVesselsForRow.holds Try.pinned (OpenSpec.ofChange fnExactVesselsForSpec)

/-- ITS FALSE NEIGHBOUR: 'it returns false'. Refute it at one input. -/
def fnExactVesselsForWrong : ChangeSpec := { name := "fnExactVesselsFor", fn := fun _ => fun
  | [d1, d2] => { results := [.lit (.bool false)], args := [d1, d2] }
  | _ => none }
def FnExactVesselsForWrongFalsely : Prop := fnExactVesselsForRow.holds Try.pinned (OpenSpec.ofChange fnExactVesselsForWrong)

/-- 'laws.FnAllergensJoin': WHATEVER THE INPUT: true; the input reads as it did. -/
def fnAllergensJoinSpec : ChangeSpec := { name := "fnAllergensJoin", fn := fun _ => fun
  | [d] => { results := [.lit (.bool true)], args := [d] }
  | _ => none }
def fnAllergensJoinRow : OpenClaim := { program := "ytpcclmgcnomgeaa", sum := "83f91e938a262b4dc5286bc54f9230a4d3f03459ab3ebcf915a97815ee2a314e", func := "loop.example/messkitchen/laws.FnAllergensJoin", spec := "fnAllergensJoin", apart := false }
def FnAllergensJoinSaid : Prop := fnAllergensJoinRow.holds Try.pinned (OpenSpec.ofChange fnAllergensJoinSpec)

/-- ITS FALSE NEIGHBOUR: 'it returns false'. Refute it at one input. -/
def fnAllergensJoinWrong : ChangeSpec := { name := "fnAllergensJoin", fn := fun _ => fun
  | [d] => { results := [.lit (.bool false)], args := [d] }
  | _ => none }
def FnAllergensJoinWrongFalsely : Prop := fnAllergensJoinRow.holds Try.pinned (OpenSpec.ofChange fnAllergensJoinWrong)

/-- 'laws.FnAllergensMeet': WHATEVER THE INPUT: true; the input reads as it did. -/
def fnAllergensMeetSpec : ChangeSpec := { name := "fnAllergensMeet", fn := fun _ => fun
  | [d] => { results := [.lit (.bool true)], args := [d] }
  | _ => none }
def fnAllergensMeetRow : OpenClaim := { program := "ytpcclmgcnomgeaa", sum := "83f91e938a262b4dc5286bc54f9230a4d3f03459ab3ebcf915a97815ee2a314e", func := "loop.example/messkitchen/laws.FnAllergensMeet", spec := "fnAllergensMeet", apart := false }
def FnAllergensMeetSaid : Prop := fnAllergensMeetRow.holds Try.pinned (OpenSpec.ofChange fnAllergensMeetSpec)

/-- ITS FALSE NEIGHBOUR: 'it returns false'. Refute it at one input. -/
def fnAllergensMeetWrong : ChangeSpec := { name := "fnAllergensMeet", fn := fun _ => fun
  | [d] => { results := [.lit (.bool false)], args := [d] }
  | _ => none }
def FnAllergensMeetWrongFalsely : Prop := fnAllergensMeetRow.holds Try.pinned (OpenSpec.ofChange fnAllergensMeetWrong)

/-- 'laws.FnExactFoodsValid': WHATEVER THE INPUT: true; the input reads as it did. -/
def fnExactFoodsValidSpec : ChangeSpec := { name := "fnExactFoodsValid", fn := fun _ => fun
  | [d] => { results := [.lit (.bool true)], args := [d] }
  | _ => none }
def fnExactFoodsValidRow : OpenClaim := { program := "ytpcclmgcnomgeaa", sum := "83f91e938a262b4dc5286bc54f9230a4d3f03459ab3ebcf915a97815ee2a314e", func := "loop.example/messkitchen/laws.FnExactFoodsValid", spec := "fnExactFoodsValid", apart := false }
def FnExactFoodsValidSaid : Prop := fnExactFoodsValidRow.holds Try.pinned (OpenSpec.ofChange fnExactFoodsValidSpec)

/-- ITS FALSE NEIGHBOUR: 'it returns false'. Refute it at one input. -/
def fnExactFoodsValidWrong : ChangeSpec := { name := "fnExactFoodsValid", fn := fun _ => fun
  | [d] => { results := [.lit (.bool false)], args := [d] }
  | _ => none }
def FnExactFoodsValidWrongFalsely : Prop := fnExactFoodsValidRow.holds Try.pinned (OpenSpec.ofChange fnExactFoodsValidWrong)

/-- 'laws.FnFoodsPart': WHATEVER THE INPUT: true; the input reads as it did. -/
def fnFoodsPartSpec : ChangeSpec := { name := "fnFoodsPart", fn := fun _ => fun
  | [d1, d2] => { results := [.lit (.bool true)], args := [d1, d2] }
  | _ => none }
def fnFoodsPartRow : OpenClaim := { program := "ytpcclmgcnomgeaa", sum := "83f91e938a262b4dc5286bc54f9230a4d3f03459ab3ebcf915a97815ee2a314e", func := "loop.example/messkitchen/laws.FnFoodsPart", spec := "fnFoodsPart", apart := false }
def FnFoodsPartSaid : Prop := fnFoodsPartRow.holds Try.pinned (OpenSpec.ofChange fnFoodsPartSpec)

/-- ITS FALSE NEIGHBOUR: 'it returns false'. Refute it at one input. -/
def fnFoodsPartWrong : ChangeSpec := { name := "fnFoodsPart", fn := fun _ => fun
  | [d1, d2] => { results := [.lit (.bool false)], args := [d1, d2] }
  | _ => none }
def FnFoodsPartWrongFalsely : Prop := fnFoodsPartRow.holds Try.pinned (OpenSpec.ofChange fnFoodsPartWrong)

/-- 'laws.FnAllergensText': WHATEVER THE INPUT: true; the input reads as it did. -/
def fnAllergensTextSpec : ChangeSpec := { name := "fnAllergensText", fn := fun _ => fun
  | [d] => { results := [.lit (.bool true)], args := [d] }
  | _ => none }
def fnAllergensTextRow : OpenClaim := { program := "ytpcclmgcnomgeaa", sum := "83f91e938a262b4dc5286bc54f9230a4d3f03459ab3ebcf915a97815ee2a314e", func := "loop.example/messkitchen/laws.FnAllergensText", spec := "fnAllergensText", apart := false }
def FnAllergensTextSaid : Prop := fnAllergensTextRow.holds Try.pinned (OpenSpec.ofChange fnAllergensTextSpec)

/-- ITS FALSE NEIGHBOUR: 'it returns false'. Refute it at one input. -/
def fnAllergensTextWrong : ChangeSpec := { name := "fnAllergensText", fn := fun _ => fun
  | [d] => { results := [.lit (.bool false)], args := [d] }
  | _ => none }
def FnAllergensTextWrongFalsely : Prop := fnAllergensTextRow.holds Try.pinned (OpenSpec.ofChange fnAllergensTextWrong)

/-- 'laws.FnVesselsNone': WHATEVER THE INPUT: true; the input reads as it did. -/
def fnVesselsNoneSpec : ChangeSpec := { name := "fnVesselsNone", fn := fun _ => fun
  | [d] => { results := [.lit (.bool true)], args := [d] }
  | _ => none }
def fnVesselsNoneRow : OpenClaim := { program := "ytpcclmgcnomgeaa", sum := "83f91e938a262b4dc5286bc54f9230a4d3f03459ab3ebcf915a97815ee2a314e", func := "loop.example/messkitchen/laws.FnVesselsNone", spec := "fnVesselsNone", apart := false }
def FnVesselsNoneSaid : Prop := fnVesselsNoneRow.holds Try.pinned (OpenSpec.ofChange fnVesselsNoneSpec)

/-- ITS FALSE NEIGHBOUR: 'it returns false'. Refute it at one input. -/
def fnVesselsNoneWrong : ChangeSpec := { name := "fnVesselsNone", fn := fun _ => fun
  | [d] => { results := [.lit (.bool false)], args := [d] }
  | _ => none }
def FnVesselsNoneWrongFalsely : Prop := fnVesselsNoneRow.holds Try.pinned (OpenSpec.ofChange fnVesselsNoneWrong)

/-- 'laws.FnVessels': WHATEVER THE INPUT: true; the input reads as it did. -/
def fnVesselsSpec : ChangeSpec := { name := "fnVessels", fn := fun _ => fun
  | [d] => { results := [.lit (.bool true)], args := [d] }
  | _ => none }
def fnVesselsRow : OpenClaim := { program := "ytpcclmgcnomgeaa", sum := "83f91e938a262b4dc5286bc54f9230a4d3f03459ab3ebcf915a97815ee2a314e", func := "loop.example/messkitchen/laws.FnVessels", spec := "fnVessels", apart := false }
def FnVesselsSaid : Prop := fnVesselsRow.holds Try.pinned (OpenSpec.ofChange fnVesselsSpec)

/-- ITS FALSE NEIGHBOUR: 'it returns false'. Refute it at one input. -/
def fnVesselsWrong : ChangeSpec := { name := "fnVessels", fn := fun _ => fun
  | [d] => { results := [.lit (.bool false)], args := [d] }
  | _ => none }
def FnVesselsWrongFalsely : Prop := fnVesselsRow.holds Try.pinned (OpenSpec.ofChange fnVesselsWrong)

/-- 'laws.FnAllergensCount': WHATEVER THE INPUT: true; the input reads as it did. -/
def fnAllergensCountSpec : ChangeSpec := { name := "fnAllergensCount", fn := fun _ => fun
  | [d] => { results := [.lit (.bool true)], args := [d] }
  | _ => none }
def fnAllergensCountRow : OpenClaim := { program := "ytpcclmgcnomgeaa", sum := "83f91e938a262b4dc5286bc54f9230a4d3f03459ab3ebcf915a97815ee2a314e", func := "loop.example/messkitchen/laws.FnAllergensCount", spec := "fnAllergensCount", apart := false }
def FnAllergensCountSaid : Prop := fnAllergensCountRow.holds Try.pinned (OpenSpec.ofChange fnAllergensCountSpec)

/-- ITS FALSE NEIGHBOUR: 'it returns false'. Refute it at one input. -/
def fnAllergensCountWrong : ChangeSpec := { name := "fnAllergensCount", fn := fun _ => fun
  | [d] => { results := [.lit (.bool false)], args := [d] }
  | _ => none }
def FnAllergensCountWrongFalsely : Prop := fnAllergensCountRow.holds Try.pinned (OpenSpec.ofChange fnAllergensCountWrong)

/-- 'laws.FnAllergensTextBad': WHATEVER THE INPUT: true; the input reads as it did. -/
def fnAllergensTextBadSpec : ChangeSpec := { name := "fnAllergensTextBad", fn := fun _ => fun
  | [d] => { results := [.lit (.bool true)], args := [d] }
  | _ => none }
def fnAllergensTextBadRow : OpenClaim := { program := "ytpcclmgcnomgeaa", sum := "83f91e938a262b4dc5286bc54f9230a4d3f03459ab3ebcf915a97815ee2a314e", func := "loop.example/messkitchen/laws.FnAllergensTextBad", spec := "fnAllergensTextBad", apart := false }
def FnAllergensTextBadSaid : Prop := fnAllergensTextBadRow.holds Try.pinned (OpenSpec.ofChange fnAllergensTextBadSpec)

/-- ITS FALSE NEIGHBOUR: 'it returns false'. Refute it at one input. -/
def fnAllergensTextBadWrong : ChangeSpec := { name := "fnAllergensTextBad", fn := fun _ => fun
  | [d] => { results := [.lit (.bool false)], args := [d] }
  | _ => none }
def FnAllergensTextBadWrongFalsely : Prop := fnAllergensTextBadRow.holds Try.pinned (OpenSpec.ofChange fnAllergensTextBadWrong)

/-- 'laws.FnAllergensLetters': WHATEVER THE INPUT: true; the input reads as it did. -/
def fnAllergensLettersSpec : ChangeSpec := { name := "fnAllergensLetters", fn := fun _ => fun
  | [d] => { results := [.lit (.bool true)], args := [d] }
  | _ => none }
def fnAllergensLettersRow : OpenClaim := { program := "ytpcclmgcnomgeaa", sum := "83f91e938a262b4dc5286bc54f9230a4d3f03459ab3ebcf915a97815ee2a314e", func := "loop.example/messkitchen/laws.FnAllergensLetters", spec := "fnAllergensLetters", apart := false }
def FnAllergensLettersSaid : Prop := fnAllergensLettersRow.holds Try.pinned (OpenSpec.ofChange fnAllergensLettersSpec)

/-- ITS FALSE NEIGHBOUR: 'it returns false'. Refute it at one input. -/
def fnAllergensLettersWrong : ChangeSpec := { name := "fnAllergensLetters", fn := fun _ => fun
  | [d] => { results := [.lit (.bool false)], args := [d] }
  | _ => none }
def FnAllergensLettersWrongFalsely : Prop := fnAllergensLettersRow.holds Try.pinned (OpenSpec.ofChange fnAllergensLettersWrong)

/-- 'laws.FnAllergensParse': WHATEVER THE INPUT: true; the input reads as it did. -/
def fnAllergensParseSpec : ChangeSpec := { name := "fnAllergensParse", fn := fun _ => fun
  | [d] => { results := [.lit (.bool true)], args := [d] }
  | _ => none }
def fnAllergensParseRow : OpenClaim := { program := "ytpcclmgcnomgeaa", sum := "83f91e938a262b4dc5286bc54f9230a4d3f03459ab3ebcf915a97815ee2a314e", func := "loop.example/messkitchen/laws.FnAllergensParse", spec := "fnAllergensParse", apart := false }
def FnAllergensParseSaid : Prop := fnAllergensParseRow.holds Try.pinned (OpenSpec.ofChange fnAllergensParseSpec)

/-- ITS FALSE NEIGHBOUR: 'it returns false'. Refute it at one input. -/
def fnAllergensParseWrong : ChangeSpec := { name := "fnAllergensParse", fn := fun _ => fun
  | [d] => { results := [.lit (.bool false)], args := [d] }
  | _ => none }
def FnAllergensParseWrongFalsely : Prop := fnAllergensParseRow.holds Try.pinned (OpenSpec.ofChange fnAllergensParseWrong)

/- THE SECOND FORM. 'bulk': how many values and letters a reading holds, each counted each time it is reached (what is shared counts as often as it is met; a slice's spare places count too). A statement '..UptoSaid' is the law's where the arguments, and the package variables that the reading takes, are together of bulk at most 1048576: NARROWER than '..Said'. Prove '..Said' where nothing that the law and all that it calls make is longer than what came in: it says more and counts as full. Else prove '..UptoSaid'. A law counts once. -/
mutual
def uptoBulk {H : Type} : DataW H → Nat
  | .lit (.string bytes) => bytes.length + 1
  | .lit _ => 1
  | .nil => 1
  | .ptr d => uptoBulk d + 1
  | .slice elems spare => uptoBulkAll elems + uptoBulkAll spare + 1
  | .agg parts => uptoBulkAll parts + 1
  | .iface _ d => uptoBulk d + 1
  | .map entries => uptoBulkEntries entries + 1
  | .held _ => 1
def uptoBulkAll {H : Type} : List (DataW H) → Nat
  | [] => 0
  | d :: r => uptoBulk d + uptoBulkAll r
def uptoBulkEntries {H : Type} : List (Lit × DataW H) → Nat
  | [] => 0
  | x :: r => uptoBulkEntry x + uptoBulkEntries r
def uptoBulkEntry {H : Type} : Lit × DataW H → Nat
  | (.string bytes, d) => bytes.length + uptoBulk d + 1
  | (_, d) => uptoBulk d + 1
 end
def uptoSmall : (H : Type) → List (DataW H) → Bool := fun _ ds => decide (uptoBulkAll ds ≤ 1048576)
def OpenSpec.upto (s : _root_.Go.ChangeSpec) : _root_.Go.OpenSpec := { _root_.Go.OpenSpec.ofChange s with cond := some uptoSmall }

/-- 'laws.FnExactVesselsFor', WHERE WHAT IT READS IS OF BULK AT MOST 1048576: true; the input reads as it did. -/
def fnExactVesselsForUptoRow : OpenClaim := { program := "ytpcclmgcnomgeaa", sum := "83f91e938a262b4dc5286bc54f9230a4d3f03459ab3ebcf915a97815ee2a314e", func := "loop.example/messkitchen/laws.FnExactVesselsFor", spec := "fnExactVesselsFor", apart := false, narrowed := true }
def FnExactVesselsForUptoSaid : Prop := fnExactVesselsForUptoRow.holds Try.pinned (OpenSpec.upto fnExactVesselsForSpec)

/-- 'laws.FnAllergensJoin', WHERE WHAT IT READS IS OF BULK AT MOST 1048576: true; the input reads as it did. -/
def fnAllergensJoinUptoRow : OpenClaim := { program := "ytpcclmgcnomgeaa", sum := "83f91e938a262b4dc5286bc54f9230a4d3f03459ab3ebcf915a97815ee2a314e", func := "loop.example/messkitchen/laws.FnAllergensJoin", spec := "fnAllergensJoin", apart := false, narrowed := true }
def FnAllergensJoinUptoSaid : Prop := fnAllergensJoinUptoRow.holds Try.pinned (OpenSpec.upto fnAllergensJoinSpec)

/-- 'laws.FnAllergensMeet', WHERE WHAT IT READS IS OF BULK AT MOST 1048576: true; the input reads as it did. -/
def fnAllergensMeetUptoRow : OpenClaim := { program := "ytpcclmgcnomgeaa", sum := "83f91e938a262b4dc5286bc54f9230a4d3f03459ab3ebcf915a97815ee2a314e", func := "loop.example/messkitchen/laws.FnAllergensMeet", spec := "fnAllergensMeet", apart := false, narrowed := true }
def FnAllergensMeetUptoSaid : Prop := fnAllergensMeetUptoRow.holds Try.pinned (OpenSpec.upto fnAllergensMeetSpec)

/-- 'laws.FnExactFoodsValid', WHERE WHAT IT READS IS OF BULK AT MOST 1048576: true; the input reads as it did. -/
def fnExactFoodsValidUptoRow : OpenClaim := { program := "ytpcclmgcnomgeaa", sum := "83f91e938a262b4dc5286bc54f9230a4d3f03459ab3ebcf915a97815ee2a314e", func := "loop.example/messkitchen/laws.FnExactFoodsValid", spec := "fnExactFoodsValid", apart := false, narrowed := true }
def FnExactFoodsValidUptoSaid : Prop := fnExactFoodsValidUptoRow.holds Try.pinned (OpenSpec.upto fnExactFoodsValidSpec)

/-- 'laws.FnFoodsPart', WHERE WHAT IT READS IS OF BULK AT MOST 1048576: true; the input reads as it did. -/
def fnFoodsPartUptoRow : OpenClaim := { program := "ytpcclmgcnomgeaa", sum := "83f91e938a262b4dc5286bc54f9230a4d3f03459ab3ebcf915a97815ee2a314e", func := "loop.example/messkitchen/laws.FnFoodsPart", spec := "fnFoodsPart", apart := false, narrowed := true }
def FnFoodsPartUptoSaid : Prop := fnFoodsPartUptoRow.holds Try.pinned (OpenSpec.upto fnFoodsPartSpec)

/-- 'laws.FnAllergensText', WHERE WHAT IT READS IS OF BULK AT MOST 1048576: true; the input reads as it did. -/
def fnAllergensTextUptoRow : OpenClaim := { program := "ytpcclmgcnomgeaa", sum := "83f91e938a262b4dc5286bc54f9230a4d3f03459ab3ebcf915a97815ee2a314e", func := "loop.example/messkitchen/laws.FnAllergensText", spec := "fnAllergensText", apart := false, narrowed := true }
def FnAllergensTextUptoSaid : Prop := fnAllergensTextUptoRow.holds Try.pinned (OpenSpec.upto fnAllergensTextSpec)

/-- 'laws.FnVesselsNone', WHERE WHAT IT READS IS OF BULK AT MOST 1048576: true; the input reads as it did. -/
def fnVesselsNoneUptoRow : OpenClaim := { program := "ytpcclmgcnomgeaa", sum := "83f91e938a262b4dc5286bc54f9230a4d3f03459ab3ebcf915a97815ee2a314e", func := "loop.example/messkitchen/laws.FnVesselsNone", spec := "fnVesselsNone", apart := false, narrowed := true }
def FnVesselsNoneUptoSaid : Prop := fnVesselsNoneUptoRow.holds Try.pinned (OpenSpec.upto fnVesselsNoneSpec)

/-- 'laws.FnVessels', WHERE WHAT IT READS IS OF BULK AT MOST 1048576: true; the input reads as it did. -/
def fnVesselsUptoRow : OpenClaim := { program := "ytpcclmgcnomgeaa", sum := "83f91e938a262b4dc5286bc54f9230a4d3f03459ab3ebcf915a97815ee2a314e", func := "loop.example/messkitchen/laws.FnVessels", spec := "fnVessels", apart := false, narrowed := true }
def FnVesselsUptoSaid : Prop := fnVesselsUptoRow.holds Try.pinned (OpenSpec.upto fnVesselsSpec)

/-- 'laws.FnAllergensCount', WHERE WHAT IT READS IS OF BULK AT MOST 1048576: true; the input reads as it did. -/
def fnAllergensCountUptoRow : OpenClaim := { program := "ytpcclmgcnomgeaa", sum := "83f91e938a262b4dc5286bc54f9230a4d3f03459ab3ebcf915a97815ee2a314e", func := "loop.example/messkitchen/laws.FnAllergensCount", spec := "fnAllergensCount", apart := false, narrowed := true }
def FnAllergensCountUptoSaid : Prop := fnAllergensCountUptoRow.holds Try.pinned (OpenSpec.upto fnAllergensCountSpec)

/-- 'laws.FnAllergensTextBad', WHERE WHAT IT READS IS OF BULK AT MOST 1048576: true; the input reads as it did. -/
def fnAllergensTextBadUptoRow : OpenClaim := { program := "ytpcclmgcnomgeaa", sum := "83f91e938a262b4dc5286bc54f9230a4d3f03459ab3ebcf915a97815ee2a314e", func := "loop.example/messkitchen/laws.FnAllergensTextBad", spec := "fnAllergensTextBad", apart := false, narrowed := true }
def FnAllergensTextBadUptoSaid : Prop := fnAllergensTextBadUptoRow.holds Try.pinned (OpenSpec.upto fnAllergensTextBadSpec)

/-- 'laws.FnAllergensLetters', WHERE WHAT IT READS IS OF BULK AT MOST 1048576: true; the input reads as it did. -/
def fnAllergensLettersUptoRow : OpenClaim := { program := "ytpcclmgcnomgeaa", sum := "83f91e938a262b4dc5286bc54f9230a4d3f03459ab3ebcf915a97815ee2a314e", func := "loop.example/messkitchen/laws.FnAllergensLetters", spec := "fnAllergensLetters", apart := false, narrowed := true }
def FnAllergensLettersUptoSaid : Prop := fnAllergensLettersUptoRow.holds Try.pinned (OpenSpec.upto fnAllergensLettersSpec)

/-- 'laws.FnAllergensParse', WHERE WHAT IT READS IS OF BULK AT MOST 1048576: true; the input reads as it did. -/
def fnAllergensParseUptoRow : OpenClaim := { program := "ytpcclmgcnomgeaa", sum := "83f91e938a262b4dc5286bc54f9230a4d3f03459ab3ebcf915a97815ee2a314e", func := "loop.example/messkitchen/laws.FnAllergensParse", spec := "fnAllergensParse", apart := false, narrowed := true }
def FnAllergensParseUptoSaid : Prop := fnAllergensParseUptoRow.holds Try.pinned (OpenSpec.upto fnAllergensParseSpec)

end Rows
end Go.Proofs.Ytpcclmgcnomgeaa
