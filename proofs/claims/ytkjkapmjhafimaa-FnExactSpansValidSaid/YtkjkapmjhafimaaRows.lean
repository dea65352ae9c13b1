/-
  No cell of these rows narrows 'for every input' (looked for: loops, veiled, ifaces, maps, wideKeys, modest, calm, conditions, laid).
  DERIVED. THE GIVEN ROWS OF THIS SEAT. 12 by the template 'for every input the law returns true; each argument reads behind the call as it read before'; 0 by the template 'total and deterministic' (their statements: YtkjkapmjhafimaaTotals.lean).
  GIVEN WITH THE SEED: the statements are not yours to turn. If you find one false, say at which input.
  Laid BY PROGRAM, IN A SANDBOX (cutbox-rows.mjs): the forced cells as the released guide's own fill.sh prints them over the translation 647acd1d2154c834… (all of the seat's roots in one cut). By AI agents, Wed Nov 11 2026. No macro, syntax, notation, axiom, sorry.
-/
import Derived.Test.YtkjkapmjhafimaaChecked
import GoSem.Claim
import GoSem.ClaimJoined
import GoSem.ClaimMapViews
import Derived.JoinedTies
import Derived.KernelRfl
namespace Go.Proofs.Ytkjkapmjhafimaa
/- THE CELL 'sum', in the pinned program and in every row, IS THE sha256 OF THE DUMP (.gsa) THAT YtkjkapmjhafimaaProg.lean LOADS. Nothing in Lean hashes anything: it is a label: what it is worth is what the hold of that sum in a sandbox is worth. -/
noncomputable def Try.pinned : Pinned := { name := "ytkjkapmjhafimaa", sum := "647acd1d2154c834374a374bf587a932da3b307b8d41d3f3863444b66c145560", checked := Try.checked }
namespace Rows
def none {H : Type} : Left H := { results := [], args := [] }

/-- 'laws.FnExactPortionsOf': WHATEVER THE INPUT: true; the input reads as it did. -/
def fnExactPortionsOfSpec : ChangeSpec := { name := "fnExactPortionsOf", fn := fun _ => fun
  | [d1, d2] => { results := [.lit (.bool true)], args := [d1, d2] }
  | _ => none }
def fnExactPortionsOfRow : OpenClaim := { program := "ytkjkapmjhafimaa", sum := "647acd1d2154c834374a374bf587a932da3b307b8d41d3f3863444b66c145560", func := "loop.example/messkitchen/laws.FnExactPortionsOf", spec := "fnExactPortionsOf", apart := false }
def FnExactPortionsOfSaid : Prop := fnExactPortionsOfRow.holds Try.pinned (OpenSpec.ofChange fnExactPortionsOfSpec)

/-- ITS FALSE NEIGHBOUR: 'it returns false'. Refute it at one input. -/
def fnExactPortionsOfWrong : ChangeSpec := { name := "fnExactPortionsOf", fn := fun _ => fun
  | [d1, d2] => { results := [.lit (.bool false)], args := [d1, d2] }
  | _ => none }
def FnExactPortionsOfWrongFalsely : Prop := fnExactPortionsOfRow.holds Try.pinned (OpenSpec.ofChange fnExactPortionsOfWrong)

/-- 'laws.FnAmountAdd': WHATEVER THE INPUT: true; the input reads as it did. -/
def fnAmountAddSpec : ChangeSpec := { name := "fnAmountAdd", fn := fun _ => fun
  | [d] => { results := [.lit (.bool true)], args := [d] }
  | _ => none }
def fnAmountAddRow : OpenClaim := { program := "ytkjkapmjhafimaa", sum := "647acd1d2154c834374a374bf587a932da3b307b8d41d3f3863444b66c145560", func := "loop.example/messkitchen/laws.FnAmountAdd", spec := "fnAmountAdd", apart := false }
def FnAmountAddSaid : Prop := fnAmountAddRow.holds Try.pinned (OpenSpec.ofChange fnAmountAddSpec)

/-- ITS FALSE NEIGHBOUR: 'it returns false'. Refute it at one input. -/
def fnAmountAddWrong : ChangeSpec := { name := "fnAmountAdd", fn := fun _ => fun
  | [d] => { results := [.lit (.bool false)], args := [d] }
  | _ => none }
def FnAmountAddWrongFalsely : Prop := fnAmountAddRow.holds Try.pinned (OpenSpec.ofChange fnAmountAddWrong)

/-- 'laws.FnPacks': WHATEVER THE INPUT: true; the input reads as it did. -/
def fnPacksSpec : ChangeSpec := { name := "fnPacks", fn := fun _ => fun
  | [d] => { results := [.lit (.bool true)], args := [d] }
  | _ => none }
def fnPacksRow : OpenClaim := { program := "ytkjkapmjhafimaa", sum := "647acd1d2154c834374a374bf587a932da3b307b8d41d3f3863444b66c145560", func := "loop.example/messkitchen/laws.FnPacks", spec := "fnPacks", apart := false }
def FnPacksSaid : Prop := fnPacksRow.holds Try.pinned (OpenSpec.ofChange fnPacksSpec)

/-- ITS FALSE NEIGHBOUR: 'it returns false'. Refute it at one input. -/
def fnPacksWrong : ChangeSpec := { name := "fnPacks", fn := fun _ => fun
  | [d] => { results := [.lit (.bool false)], args := [d] }
  | _ => none }
def FnPacksWrongFalsely : Prop := fnPacksRow.holds Try.pinned (OpenSpec.ofChange fnPacksWrong)

/-- 'laws.FnPacksLeft': WHATEVER THE INPUT: true; the input reads as it did. -/
def fnPacksLeftSpec : ChangeSpec := { name := "fnPacksLeft", fn := fun _ => fun
  | [d] => { results := [.lit (.bool true)], args := [d] }
  | _ => none }
def fnPacksLeftRow : OpenClaim := { program := "ytkjkapmjhafimaa", sum := "647acd1d2154c834374a374bf587a932da3b307b8d41d3f3863444b66c145560", func := "loop.example/messkitchen/laws.FnPacksLeft", spec := "fnPacksLeft", apart := false }
def FnPacksLeftSaid : Prop := fnPacksLeftRow.holds Try.pinned (OpenSpec.ofChange fnPacksLeftSpec)

/-- ITS FALSE NEIGHBOUR: 'it returns false'. Refute it at one input. -/
def fnPacksLeftWrong : ChangeSpec := { name := "fnPacksLeft", fn := fun _ => fun
  | [d] => { results := [.lit (.bool false)], args := [d] }
  | _ => none }
def FnPacksLeftWrongFalsely : Prop := fnPacksLeftRow.holds Try.pinned (OpenSpec.ofChange fnPacksLeftWrong)

/-- 'laws.FnExactAllergensParse': WHATEVER THE INPUT: true; the input reads as it did. -/
def fnExactAllergensParseSpec : ChangeSpec := { name := "fnExactAllergensParse", fn := fun _ => fun
  | [d] => { results := [.lit (.bool true)], args := [d] }
  | _ => none }
def fnExactAllergensParseRow : OpenClaim := { program := "ytkjkapmjhafimaa", sum := "647acd1d2154c834374a374bf587a932da3b307b8d41d3f3863444b66c145560", func := "loop.example/messkitchen/laws.FnExactAllergensParse", spec := "fnExactAllergensParse", apart := false }
def FnExactAllergensParseSaid : Prop := fnExactAllergensParseRow.holds Try.pinned (OpenSpec.ofChange fnExactAllergensParseSpec)

/-- ITS FALSE NEIGHBOUR: 'it returns false'. Refute it at one input. -/
def fnExactAllergensParseWrong : ChangeSpec := { name := "fnExactAllergensParse", fn := fun _ => fun
  | [d] => { results := [.lit (.bool false)], args := [d] }
  | _ => none }
def FnExactAllergensParseWrongFalsely : Prop := fnExactAllergensParseRow.holds Try.pinned (OpenSpec.ofChange fnExactAllergensParseWrong)

/-- 'laws.FnExactSpansValid': WHATEVER THE INPUT: true; the input reads as it did. -/
def fnExactSpansValidSpec : ChangeSpec := { name := "fnExactSpansValid", fn := fun _ => fun
  | [d] => { results := [.lit (.bool true)], args := [d] }
  | _ => none }
def fnExactSpansValidRow : OpenClaim := { program := "ytkjkapmjhafimaa", sum := "647acd1d2154c834374a374bf587a932da3b307b8d41d3f3863444b66c145560", func := "loop.example/messkitchen/laws.FnExactSpansValid", spec := "fnExactSpansValid", apart := false }
def FnExactSpansValidSaid : Prop := fnExactSpansValidRow.holds Try.pinned (OpenSpec.ofChange fnExactSpansValidSpec)

/-- ITS FALSE NEIGHBOUR: 'it returns false'. Refute it at one input. -/
def fnExactSpansValidWrong : ChangeSpec := { name := "fnExactSpansValid", fn := fun _ => fun
  | [d] => { results := [.lit (.bool false)], args := [d] }
  | _ => none }
def FnExactSpansValidWrongFalsely : Prop := fnExactSpansValidRow.holds Try.pinned (OpenSpec.ofChange fnExactSpansValidWrong)

/-- 'laws.FnPortions': WHATEVER THE INPUT: true; the input reads as it did. -/
def fnPortionsSpec : ChangeSpec := { name := "fnPortions", fn := fun _ => fun
  | [d] => { results := [.lit (.bool true)], args := [d] }
  | _ => none }
def fnPortionsRow : OpenClaim := { program := "ytkjkapmjhafimaa", sum := "647acd1d2154c834374a374bf587a932da3b307b8d41d3f3863444b66c145560", func := "loop.example/messkitchen/laws.FnPortions", spec := "fnPortions", apart := false }
def FnPortionsSaid : Prop := fnPortionsRow.holds Try.pinned (OpenSpec.ofChange fnPortionsSpec)

/-- ITS FALSE NEIGHBOUR: 'it returns false'. Refute it at one input. -/
def fnPortionsWrong : ChangeSpec := { name := "fnPortions", fn := fun _ => fun
  | [d] => { results := [.lit (.bool false)], args := [d] }
  | _ => none }
def FnPortionsWrongFalsely : Prop := fnPortionsRow.holds Try.pinned (OpenSpec.ofChange fnPortionsWrong)

/-- 'laws.FnPortionsBegin': WHATEVER THE INPUT: true; the input reads as it did. -/
def fnPortionsBeginSpec : ChangeSpec := { name := "fnPortionsBegin", fn := fun _ => fun
  | [d1, d2] => { results := [.lit (.bool true)], args := [d1, d2] }
  | _ => none }
def fnPortionsBeginRow : OpenClaim := { program := "ytkjkapmjhafimaa", sum := "647acd1d2154c834374a374bf587a932da3b307b8d41d3f3863444b66c145560", func := "loop.example/messkitchen/laws.FnPortionsBegin", spec := "fnPortionsBegin", apart := false }
def FnPortionsBeginSaid : Prop := fnPortionsBeginRow.holds Try.pinned (OpenSpec.ofChange fnPortionsBeginSpec)

/-- ITS FALSE NEIGHBOUR: 'it returns false'. Refute it at one input. -/
def fnPortionsBeginWrong : ChangeSpec := { name := "fnPortionsBegin", fn := fun _ => fun
  | [d1, d2] => { results := [.lit (.bool false)], args := [d1, d2] }
  | _ => none }
def FnPortionsBeginWrongFalsely : Prop := fnPortionsBeginRow.holds Try.pinned (OpenSpec.ofChange fnPortionsBeginWrong)

/-- 'laws.FnAmountScale': WHATEVER THE INPUT: true; the input reads as it did. -/
def fnAmountScaleSpec : ChangeSpec := { name := "fnAmountScale", fn := fun _ => fun
  | [d] => { results := [.lit (.bool true)], args := [d] }
  | _ => none }
def fnAmountScaleRow : OpenClaim := { program := "ytkjkapmjhafimaa", sum := "647acd1d2154c834374a374bf587a932da3b307b8d41d3f3863444b66c145560", func := "loop.example/messkitchen/laws.FnAmountScale", spec := "fnAmountScale", apart := false }
def FnAmountScaleSaid : Prop := fnAmountScaleRow.holds Try.pinned (OpenSpec.ofChange fnAmountScaleSpec)

/-- ITS FALSE NEIGHBOUR: 'it returns false'. Refute it at one input. -/
def fnAmountScaleWrong : ChangeSpec := { name := "fnAmountScale", fn := fun _ => fun
  | [d] => { results := [.lit (.bool false)], args := [d] }
  | _ => none }
def FnAmountScaleWrongFalsely : Prop := fnAmountScaleRow.holds Try.pinned (OpenSpec.ofChange fnAmountScaleWrong)

/-- 'laws.FnAmountScaleAdd': WHATEVER THE INPUT: true; the input reads as it did. -/
def fnAmountScaleAddSpec : ChangeSpec := { name := "fnAmountScaleAdd", fn := fun _ => fun
  | [d] => { results := [.lit (.bool true)], args := [d] }
  | _ => none }
def fnAmountScaleAddRow : OpenClaim := { program := "ytkjkapmjhafimaa", sum := "647acd1d2154c834374a374bf587a932da3b307b8d41d3f3863444b66c145560", func := "loop.example/messkitchen/laws.FnAmountScaleAdd", spec := "fnAmountScaleAdd", apart := false }
def FnAmountScaleAddSaid : Prop := fnAmountScaleAddRow.holds Try.pinned (OpenSpec.ofChange fnAmountScaleAddSpec)

/-- ITS FALSE NEIGHBOUR: 'it returns false'. Refute it at one input. -/
def fnAmountScaleAddWrong : ChangeSpec := { name := "fnAmountScaleAdd", fn := fun _ => fun
  | [d] => { results := [.lit (.bool false)], args := [d] }
  | _ => none }
def FnAmountScaleAddWrongFalsely : Prop := fnAmountScaleAddRow.holds Try.pinned (OpenSpec.ofChange fnAmountScaleAddWrong)

/-- 'laws.FnAmountScaleSame': WHATEVER THE INPUT: true; the input reads as it did. -/
def fnAmountScaleSameSpec : ChangeSpec := { name := "fnAmountScaleSame", fn := fun _ => fun
  | [d] => { results := [.lit (.bool true)], args := [d] }
  | _ => none }
def fnAmountScaleSameRow : OpenClaim := { program := "ytkjkapmjhafimaa", sum := "647acd1d2154c834374a374bf587a932da3b307b8d41d3f3863444b66c145560", func := "loop.example/messkitchen/laws.FnAmountScaleSame", spec := "fnAmountScaleSame", apart := false }
def FnAmountScaleSameSaid : Prop := fnAmountScaleSameRow.holds Try.pinned (OpenSpec.ofChange fnAmountScaleSameSpec)

/-- ITS FALSE NEIGHBOUR: 'it returns false'. Refute it at one input. -/
def fnAmountScaleSameWrong : ChangeSpec := { name := "fnAmountScaleSame", fn := fun _ => fun
  | [d] => { results := [.lit (.bool false)], args := [d] }
  | _ => none }
def FnAmountScaleSameWrongFalsely : Prop := fnAmountScaleSameRow.holds Try.pinned (OpenSpec.ofChange fnAmountScaleSameWrong)

/-- 'laws.FnExactAllergensCount': WHATEVER THE INPUT: true; the input reads as it did. -/
def fnExactAllergensCountSpec : ChangeSpec := { name := "fnExactAllergensCount", fn := fun _ => fun
  | [d] => { results := [.lit (.bool true)], args := [d] }
  | _ => none }
def fnExactAllergensCountRow : OpenClaim := { program := "ytkjkapmjhafimaa", sum := "647acd1d2154c834374a374bf587a932da3b307b8d41d3f3863444b66c145560", func := "loop.example/messkitchen/laws.FnExactAllergensCount", spec := "fnExactAllergensCount", apart := false }
def FnExactAllergensCountSaid : Prop := fnExactAllergensCountRow.holds Try.pinned (OpenSpec.ofChange fnExactAllergensCountSpec)

/-- ITS FALSE NEIGHBOUR: 'it returns false'. Refute it at one input. -/
def fnExactAllergensCountWrong : ChangeSpec := { name := "fnExactAllergensCount", fn := fun _ => fun
  | [d] => { results := [.lit (.bool false)], args := [d] }
  | _ => none }
def FnExactAllergensCountWrongFalsely : Prop := fnExactAllergensCountRow.holds Try.pinned (OpenSpec.ofChange fnExactAllergensCountWrong)

/- THE SECOND FORM. 'bulk': how many values and letters a reading holds, each counted each time it is reached (what is shared counts as often as it is met; a slice's spare places count too). A statement '..UptoSaid' is the law's where the arguments, and the package variables that the reading takes, are together of bulk at most 1048576: NARROWER than '..Said'. Prove '..Said' where nothing that the law and all that it calls make is longer than what came in: it says more and counts as full. Else prove '..UptoSaid'. A law counts once. -/
mutual
def uptoBulk {H : Type} : DataW H → Nat
  | .lit (.string bytes) => bytes.length + 1
  | .lit _ => 1
  | .nil => 1
  | .ptr d => uptoBulk d + 1
  | .slice elems spare => uptoBulkAll elems + uptoBulkAll spare + 1
  | .agg parts => uptoBulkAll parts + 1
  | .iface _ d => uptoBulk d + 1
  | .map entries => uptoBulkEntries entries + 1
  | .held _ => 1
def uptoBulkAll {H : Type} : List (DataW H) → Nat
  | [] => 0
  | d :: r => uptoBulk d + uptoBulkAll r
def uptoBulkEntries {H : Type} : List (Lit × DataW H) → Nat
  | [] => 0
  | x :: r => uptoBulkEntry x + uptoBulkEntries r
def uptoBulkEntry {H : Type} : Lit × DataW H → Nat
  | (.string bytes, d) => bytes.length + uptoBulk d + 1
  | (_, d) => uptoBulk d + 1
 end
def uptoSmall : (H : Type) → List (DataW H) → Bool := fun _ ds => decide (uptoBulkAll ds ≤ 1048576)
def OpenSpec.upto (s : _root_.Go.ChangeSpec) : _root_.Go.OpenSpec := { _root_.Go.OpenSpec.ofChange s with cond := some uptoSmall }

/-- 'laws.FnExactPortionsOf', WHERE WHAT IT READS IS OF BULK AT MOST 1048576: true; the input reads as it did. -/
def fnExactPortionsOfUptoRow : OpenClaim := { program := "ytkjkapmjhafimaa", sum := "647acd1d2154c834374a374bf587a932da3b307b8d41d3f3863444b66c145560", func := "loop.example/messkitchen/laws.FnExactPortionsOf", spec := "fnExactPortionsOf", apart := false, narrowed := true }
def FnExactPortionsOfUptoSaid : Prop := fnExactPortionsOfUptoRow.holds Try.pinned (OpenSpec.upto fnExactPortionsOfSpec)

/-- 'laws.FnAmountAdd', WHERE WHAT IT READS IS OF BULK AT MOST 1048576: true; the input reads as it did. -/
def fnAmountAddUptoRow : OpenClaim := { program := "ytkjkapmjhafimaa", sum := "647acd1d2154c834374a374bf587a932da3b307b8d41d3f3863444b66c145560", func := "loop.example/messkitchen/laws.FnAmountAdd", spec := "fnAmountAdd", apart := false, narrowed := true }
def FnAmountAddUptoSaid : Prop := fnAmountAddUptoRow.holds Try.pinned (OpenSpec.upto fnAmountAddSpec)

/-- 'laws.FnPacks', WHERE WHAT IT READS IS OF BULK AT MOST 1048576: true; the input reads as it did. -/
def fnPacksUptoRow : OpenClaim := { program := "ytkjkapmjhafimaa", sum := "647acd1d2154c834374a374bf587a932da3b307b8d41d3f3863444b66c145560", func := "loop.example/messkitchen/laws.FnPacks", spec := "fnPacks", apart := false, narrowed := true }
def FnPacksUptoSaid : Prop := fnPacksUptoRow.holds Try.pinned (OpenSpec.upto fnPacksSpec)

/-- 'laws.FnPacksLeft', WHERE WHAT IT READS IS OF BULK AT MOST 1048576: true; the input reads as it did. -/
def fnPacksLeftUptoRow : OpenClaim := { program := "ytkjkapmjhafimaa", sum := "647acd1d2154c834374a374bf587a932da3b307b8d41d3f3863444b66c145560", func := "loop.example/messkitchen/laws.FnPacksLeft", spec := "fnPacksLeft", apart := false, narrowed := true }
def FnPacksLeftUptoSaid : Prop := fnPacksLeftUptoRow.holds Try.pinned (OpenSpec.upto fnPacksLeftSpec)

/-- 'laws.FnExactAllergensParse', WHERE WHAT IT READS IS OF BULK AT MOST 1048576: true; the input reads as it did. -/
def fnExactAllergensParseUptoRow : OpenClaim := { program := "ytkjkapmjhafimaa", sum := "647acd1d2154c834374a374bf587a932da3b307b8d41d3f3863444b66c145560", func := "loop.example/messkitchen/laws.FnExactAllergensParse", spec := "fnExactAllergensParse", apart := false, narrowed := true }
def FnExactAllergensParseUptoSaid : Prop := fnExactAllergensParseUptoRow.holds Try.pinned (OpenSpec.upto fnExactAllergensParseSpec)

/-- 'laws.FnExactSpansValid', WHERE WHAT IT READS IS OF BULK AT MOST 1048576: true; the input reads as it did. -/
def fnExactSpansValidUptoRow : OpenClaim := { program := "ytkjkapmjhafimaa", sum := "647acd1d2154c834374a374bf587a932da3b307b8d41d3f3863444b66c145560", func := "loop.example/messkitchen/laws.FnExactSpansValid", spec := "fnExactSpansValid", apart := false, narrowed := true }
def FnExactSpansValidUptoSaid : Prop := fnExactSpansValidUptoRow.holds Try.pinned (OpenSpec.upto fnExactSpansValidSpec)

/-- 'laws.FnPortions', WHERE WHAT IT READS IS OF BULK AT MOST 1048576: true; the input reads as it did. -/
def fnPortionsUptoRow : OpenClaim := { program := "ytkjkapmjhafimaa", sum := "647acd1d2154c834374a374bf587a932da3b307b8d41d3f3863444b66c145560", func := "loop.example/messkitchen/laws.FnPortions", spec := "fnPortions", apart := false, narrowed := true }
def FnPortionsUptoSaid : Prop := fnPortionsUptoRow.holds Try.pinned (OpenSpec.upto fnPortionsSpec)

/-- 'laws.FnPortionsBegin', WHERE WHAT IT READS IS OF BULK AT MOST 1048576: true; the input reads as it did. -/
def fnPortionsBeginUptoRow : OpenClaim := { program := "ytkjkapmjhafimaa", sum := "647acd1d2154c834374a374bf587a932da3b307b8d41d3f3863444b66c145560", func := "loop.example/messkitchen/laws.FnPortionsBegin", spec := "fnPortionsBegin", apart := false, narrowed := true }
def FnPortionsBeginUptoSaid : Prop := fnPortionsBeginUptoRow.holds Try.pinned (OpenSpec.upto fnPortionsBeginSpec)

/-- 'laws.FnAmountScale', WHERE WHAT IT READS IS OF BULK AT MOST 1048576: true; the input reads as it did. -/
def fnAmountScaleUptoRow : OpenClaim := { program := "ytkjkapmjhafimaa", sum := "647acd1d2154c834374a374bf587a932da3b307b8d41d3f3863444b66c145560", func := "loop.example/messkitchen/laws.FnAmountScale", spec := "fnAmountScale", apart := false, narrowed := true }
def FnAmountScaleUptoSaid : Prop := fnAmountScaleUptoRow.holds Try.pinned (OpenSpec.upto fnAmountScaleSpec)

/-- 'laws.FnAmountScaleAdd', WHERE WHAT IT READS IS OF BULK AT MOST 1048576: true; the input reads as it did. -/
def fnAmountScaleAddUptoRow : OpenClaim := { program := "ytkjkapmjhafimaa", sum := "647acd1d2154c834374a374bf587a932da3b307b8d41d3f3863444b66c145560", func := "loop.example/messkitchen/laws.FnAmountScaleAdd", spec := "fnAmountScaleAdd", apart := false, narrowed := true }
def FnAmountScaleAddUptoSaid : Prop := fnAmountScaleAddUptoRow.holds Try.pinned (OpenSpec.upto fnAmountScaleAddSpec)

/-- 'laws.FnAmountScaleSame', WHERE WHAT IT READS IS OF BULK AT MOST 1048576: true; the input reads as it did. -/
def fnAmountScaleSameUptoRow : OpenClaim := { program := "ytkjkapmjhafimaa", sum := "647acd1d2154c834374a374bf587a932da3b307b8d41d3f3863444b66c145560", func := "loop.example/messkitchen/laws.FnAmountScaleSame", spec := "fnAmountScaleSame", apart := false, narrowed := true }
def FnAmountScaleSameUptoSaid : Prop := fnAmountScaleSameUptoRow.holds Try.pinned (OpenSpec.upto fnAmountScaleSameSpec)

/-- 'laws.FnExactAllergensCount', WHERE WHAT IT READS IS OF BULK AT MOST 1048576: true; the input reads as it did. -/
def fnExactAllergensCountUptoRow : OpenClaim := { program := "ytkjkapmjhafimaa", sum := "647acd1d2154c834374a374bf587a932da3b307b8d41d3f3863444b66c145560", func := "loop.example/messkitchen/laws.FnExactAllergensCount", spec := "fnExactAllergensCount", apart := false, narrowed := true }
def FnExactAllergensCountUptoSaid : Prop := fnExactAllergensCountUptoRow.holds Try.pinned (OpenSpec.upto fnExactAllergensCountSpec)

end Rows
end Go.Proofs.Ytkjkapmjhafimaa
