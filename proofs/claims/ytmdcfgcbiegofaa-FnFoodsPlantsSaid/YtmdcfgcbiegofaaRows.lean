/-
  No cell of these rows narrows 'for every input' (looked for: loops, veiled, ifaces, maps, wideKeys, modest, calm, conditions, laid).
  DERIVED. THE GIVEN ROWS OF THIS SEAT. 9 by the template 'for every input the law returns true; each argument reads behind the call as it read before'; 0 by the template 'total and deterministic' (their statements: YtmdcfgcbiegofaaTotals.lean).
  GIVEN WITH THE SEED: the statements are not yours to turn. If you find one false, say at which input.
  Laid BY PROGRAM, IN A SANDBOX (cutbox-rows.mjs): the forced cells as the released guide's own fill.sh prints them over the translation e800e25d0ae41186… (all of the seat's roots in one cut). By AI agents, Wed Nov 11 2026. No macro, syntax, notation, axiom, sorry.
-/
import Derived.Test.YtmdcfgcbiegofaaChecked
import GoSem.Claim
import GoSem.ClaimJoined
import GoSem.ClaimMapViews
import Derived.JoinedTies
import Derived.KernelRfl
namespace Go.Proofs.Ytmdcfgcbiegofaa
/- THE CELL 'sum', in the pinned program and in every row, IS THE sha256 OF THE DUMP (.gsa) THAT YtmdcfgcbiegofaaProg.lean LOADS. Nothing in Lean hashes anything: it is a label: what it is worth is what the hold of that sum in a sandbox is worth. -/
noncomputable def Try.pinned : Pinned := { name := "ytmdcfgcbiegofaa", sum := "e800e25d0ae411862ce11852e525d475d3933f11f4921c68c4587fec6f0292d8", checked := Try.checked }
namespace Rows
def none {H : Type} : Left H := { results := [], args := [] }

/-- 'laws.FnExactFoodsFind': WHATEVER THE INPUT: true; the input reads as it did. -/
def fnExactFoodsFindSpec : ChangeSpec := { name := "fnExactFoodsFind", fn := fun _ => fun
  | [d1, d2] => { results := [.lit (.bool true)], args := [d1, d2] }
  | _ => none }
def fnExactFoodsFindRow : OpenClaim := { program := "ytmdcfgcbiegofaa", sum := "e800e25d0ae411862ce11852e525d475d3933f11f4921c68c4587fec6f0292d8", func := "loop.example/messkitchen/laws.FnExactFoodsFind", spec := "fnExactFoodsFind", unfollowed := true, recurses := true, apart := false }
def FnExactFoodsFindSaid : Prop := fnExactFoodsFindRow.holds Try.pinned (OpenSpec.ofChange fnExactFoodsFindSpec)

/-- ITS FALSE NEIGHBOUR: 'it returns false'. Refute it at one input. -/
def fnExactFoodsFindWrong : ChangeSpec := { name := "fnExactFoodsFind", fn := fun _ => fun
  | [d1, d2] => { results := [.lit (.bool false)], args := [d1, d2] }
  | _ => none }
def FnExactFoodsFindWrongFalsely : Prop := fnExactFoodsFindRow.holds Try.pinned (OpenSpec.ofChange fnExactFoodsFindWrong)

/-- 'laws.FnFoodsFind': WHATEVER THE INPUT: true; the input reads as it did. -/
def fnFoodsFindSpec : ChangeSpec := { name := "fnFoodsFind", fn := fun _ => fun
  | [d] => { results := [.lit (.bool true)], args := [d] }
  | _ => none }
def fnFoodsFindRow : OpenClaim := { program := "ytmdcfgcbiegofaa", sum := "e800e25d0ae411862ce11852e525d475d3933f11f4921c68c4587fec6f0292d8", func := "loop.example/messkitchen/laws.FnFoodsFind", spec := "fnFoodsFind", unfollowed := true, recurses := true, apart := false }
def FnFoodsFindSaid : Prop := fnFoodsFindRow.holds Try.pinned (OpenSpec.ofChange fnFoodsFindSpec)

/-- ITS FALSE NEIGHBOUR: 'it returns false'. Refute it at one input. -/
def fnFoodsFindWrong : ChangeSpec := { name := "fnFoodsFind", fn := fun _ => fun
  | [d] => { results := [.lit (.bool false)], args := [d] }
  | _ => none }
def FnFoodsFindWrongFalsely : Prop := fnFoodsFindRow.holds Try.pinned (OpenSpec.ofChange fnFoodsFindWrong)

/-- 'laws.FnFoodsPlants': WHATEVER THE INPUT: true; the input reads as it did. -/
def fnFoodsPlantsSpec : ChangeSpec := { name := "fnFoodsPlants", fn := fun _ => fun
  | [d] => { results := [.lit (.bool true)], args := [d] }
  | _ => none }
def fnFoodsPlantsRow : OpenClaim := { program := "ytmdcfgcbiegofaa", sum := "e800e25d0ae411862ce11852e525d475d3933f11f4921c68c4587fec6f0292d8", func := "loop.example/messkitchen/laws.FnFoodsPlants", spec := "fnFoodsPlants", unfollowed := true, recurses := true, apart := false }
def FnFoodsPlantsSaid : Prop := fnFoodsPlantsRow.holds Try.pinned (OpenSpec.ofChange fnFoodsPlantsSpec)

/-- ITS FALSE NEIGHBOUR: 'it returns false'. Refute it at one input. -/
def fnFoodsPlantsWrong : ChangeSpec := { name := "fnFoodsPlants", fn := fun _ => fun
  | [d] => { results := [.lit (.bool false)], args := [d] }
  | _ => none }
def FnFoodsPlantsWrongFalsely : Prop := fnFoodsPlantsRow.holds Try.pinned (OpenSpec.ofChange fnFoodsPlantsWrong)

/-- 'laws.FnFoodsWorstMore': WHATEVER THE INPUT: true; the input reads as it did. -/
def fnFoodsWorstMoreSpec : ChangeSpec := { name := "fnFoodsWorstMore", fn := fun _ => fun
  | [d1, d2] => { results := [.lit (.bool true)], args := [d1, d2] }
  | _ => none }
def fnFoodsWorstMoreRow : OpenClaim := { program := "ytmdcfgcbiegofaa", sum := "e800e25d0ae411862ce11852e525d475d3933f11f4921c68c4587fec6f0292d8", func := "loop.example/messkitchen/laws.FnFoodsWorstMore", spec := "fnFoodsWorstMore", unfollowed := true, recurses := true, apart := false }
def FnFoodsWorstMoreSaid : Prop := fnFoodsWorstMoreRow.holds Try.pinned (OpenSpec.ofChange fnFoodsWorstMoreSpec)

/-- ITS FALSE NEIGHBOUR: 'it returns false'. Refute it at one input. -/
def fnFoodsWorstMoreWrong : ChangeSpec := { name := "fnFoodsWorstMore", fn := fun _ => fun
  | [d1, d2] => { results := [.lit (.bool false)], args := [d1, d2] }
  | _ => none }
def FnFoodsWorstMoreWrongFalsely : Prop := fnFoodsWorstMoreRow.holds Try.pinned (OpenSpec.ofChange fnFoodsWorstMoreWrong)

/-- 'laws.FnExactFoodsWorst': WHATEVER THE INPUT: true; the input reads as it did. -/
def fnExactFoodsWorstSpec : ChangeSpec := { name := "fnExactFoodsWorst", fn := fun _ => fun
  | [d1, d2] => { results := [.lit (.bool true)], args := [d1, d2] }
  | _ => none }
def fnExactFoodsWorstRow : OpenClaim := { program := "ytmdcfgcbiegofaa", sum := "e800e25d0ae411862ce11852e525d475d3933f11f4921c68c4587fec6f0292d8", func := "loop.example/messkitchen/laws.FnExactFoodsWorst", spec := "fnExactFoodsWorst", unfollowed := true, recurses := true, apart := false }
def FnExactFoodsWorstSaid : Prop := fnExactFoodsWorstRow.holds Try.pinned (OpenSpec.ofChange fnExactFoodsWorstSpec)

/-- ITS FALSE NEIGHBOUR: 'it returns false'. Refute it at one input. -/
def fnExactFoodsWorstWrong : ChangeSpec := { name := "fnExactFoodsWorst", fn := fun _ => fun
  | [d1, d2] => { results := [.lit (.bool false)], args := [d1, d2] }
  | _ => none }
def FnExactFoodsWorstWrongFalsely : Prop := fnExactFoodsWorstRow.holds Try.pinned (OpenSpec.ofChange fnExactFoodsWorstWrong)

/-- 'laws.FnFoodsWorst': WHATEVER THE INPUT: true; the input reads as it did. -/
def fnFoodsWorstSpec : ChangeSpec := { name := "fnFoodsWorst", fn := fun _ => fun
  | [d] => { results := [.lit (.bool true)], args := [d] }
  | _ => none }
def fnFoodsWorstRow : OpenClaim := { program := "ytmdcfgcbiegofaa", sum := "e800e25d0ae411862ce11852e525d475d3933f11f4921c68c4587fec6f0292d8", func := "loop.example/messkitchen/laws.FnFoodsWorst", spec := "fnFoodsWorst", unfollowed := true, recurses := true, apart := false }
def FnFoodsWorstSaid : Prop := fnFoodsWorstRow.holds Try.pinned (OpenSpec.ofChange fnFoodsWorstSpec)

/-- ITS FALSE NEIGHBOUR: 'it returns false'. Refute it at one input. -/
def fnFoodsWorstWrong : ChangeSpec := { name := "fnFoodsWorst", fn := fun _ => fun
  | [d] => { results := [.lit (.bool false)], args := [d] }
  | _ => none }
def FnFoodsWorstWrongFalsely : Prop := fnFoodsWorstRow.holds Try.pinned (OpenSpec.ofChange fnFoodsWorstWrong)

/-- 'laws.FnFoodsHarm': WHATEVER THE INPUT: true; the input reads as it did. -/
def fnFoodsHarmSpec : ChangeSpec := { name := "fnFoodsHarm", fn := fun _ => fun
  | [d] => { results := [.lit (.bool true)], args := [d] }
  | _ => none }
def fnFoodsHarmRow : OpenClaim := { program := "ytmdcfgcbiegofaa", sum := "e800e25d0ae411862ce11852e525d475d3933f11f4921c68c4587fec6f0292d8", func := "loop.example/messkitchen/laws.FnFoodsHarm", spec := "fnFoodsHarm", apart := false }
def FnFoodsHarmSaid : Prop := fnFoodsHarmRow.holds Try.pinned (OpenSpec.ofChange fnFoodsHarmSpec)

/-- ITS FALSE NEIGHBOUR: 'it returns false'. Refute it at one input. -/
def fnFoodsHarmWrong : ChangeSpec := { name := "fnFoodsHarm", fn := fun _ => fun
  | [d] => { results := [.lit (.bool false)], args := [d] }
  | _ => none }
def FnFoodsHarmWrongFalsely : Prop := fnFoodsHarmRow.holds Try.pinned (OpenSpec.ofChange fnFoodsHarmWrong)

/-- 'laws.FnExactFoodsHarm': WHATEVER THE INPUT: true; the input reads as it did. -/
def fnExactFoodsHarmSpec : ChangeSpec := { name := "fnExactFoodsHarm", fn := fun _ => fun
  | [d1, d2] => { results := [.lit (.bool true)], args := [d1, d2] }
  | _ => none }
def fnExactFoodsHarmRow : OpenClaim := { program := "ytmdcfgcbiegofaa", sum := "e800e25d0ae411862ce11852e525d475d3933f11f4921c68c4587fec6f0292d8", func := "loop.example/messkitchen/laws.FnExactFoodsHarm", spec := "fnExactFoodsHarm", apart := false }
def FnExactFoodsHarmSaid : Prop := fnExactFoodsHarmRow.holds Try.pinned (OpenSpec.ofChange fnExactFoodsHarmSpec)

/-- ITS FALSE NEIGHBOUR: 'it returns false'. Refute it at one input. -/
def fnExactFoodsHarmWrong : ChangeSpec := { name := "fnExactFoodsHarm", fn := fun _ => fun
  | [d1, d2] => { results := [.lit (.bool false)], args := [d1, d2] }
  | _ => none }
def FnExactFoodsHarmWrongFalsely : Prop := fnExactFoodsHarmRow.holds Try.pinned (OpenSpec.ofChange fnExactFoodsHarmWrong)

/-- 'laws.FnFoodsHarmMore': WHATEVER THE INPUT: true; the input reads as it did. -/
def fnFoodsHarmMoreSpec : ChangeSpec := { name := "fnFoodsHarmMore", fn := fun _ => fun
  | [d1, d2] => { results := [.lit (.bool true)], args := [d1, d2] }
  | _ => none }
def fnFoodsHarmMoreRow : OpenClaim := { program := "ytmdcfgcbiegofaa", sum := "e800e25d0ae411862ce11852e525d475d3933f11f4921c68c4587fec6f0292d8", func := "loop.example/messkitchen/laws.FnFoodsHarmMore", spec := "fnFoodsHarmMore", apart := false }
def FnFoodsHarmMoreSaid : Prop := fnFoodsHarmMoreRow.holds Try.pinned (OpenSpec.ofChange fnFoodsHarmMoreSpec)

/-- ITS FALSE NEIGHBOUR: 'it returns false'. Refute it at one input. -/
def fnFoodsHarmMoreWrong : ChangeSpec := { name := "fnFoodsHarmMore", fn := fun _ => fun
  | [d1, d2] => { results := [.lit (.bool false)], args := [d1, d2] }
  | _ => none }
def FnFoodsHarmMoreWrongFalsely : Prop := fnFoodsHarmMoreRow.holds Try.pinned (OpenSpec.ofChange fnFoodsHarmMoreWrong)

/- THE SECOND FORM. 'bulk': how many values and letters a reading holds, each counted each time it is reached (what is shared counts as often as it is met; a slice's spare places count too). A statement '..UptoSaid' is the law's where the arguments, and the package variables that the reading takes, are together of bulk at most 1048576: NARROWER than '..Said'. Prove '..Said' where nothing that the law and all that it calls make is longer than what came in: it says more and counts as full. Else prove '..UptoSaid'. A law counts once. -/
mutual
def uptoBulk {H : Type} : DataW H → Nat
  | .lit (.string bytes) => bytes.length + 1
  | .lit _ => 1
  | .nil => 1
  | .ptr d => uptoBulk d + 1
  | .slice elems spare => uptoBulkAll elems + uptoBulkAll spare + 1
  | .agg parts => uptoBulkAll parts + 1
  | .iface _ d => uptoBulk d + 1
  | .map entries => uptoBulkEntries entries + 1
  | .held _ => 1
def uptoBulkAll {H : Type} : List (DataW H) → Nat
  | [] => 0
  | d :: r => uptoBulk d + uptoBulkAll r
def uptoBulkEntries {H : Type} : List (Lit × DataW H) → Nat
  | [] => 0
  | x :: r => uptoBulkEntry x + uptoBulkEntries r
def uptoBulkEntry {H : Type} : Lit × DataW H → Nat
  | (.string bytes, d) => bytes.length + uptoBulk d + 1
  | (_, d) => uptoBulk d + 1
 end
def uptoSmall : (H : Type) → List (DataW H) → Bool := fun _ ds => decide (uptoBulkAll ds ≤ 1048576)
def OpenSpec.upto (s : _root_.Go.ChangeSpec) : _root_.Go.OpenSpec := { _root_.Go.OpenSpec.ofChange s with cond := some uptoSmall }

/-- 'laws.FnExactFoodsFind', WHERE WHAT IT READS IS OF BULK AT MOST 1048576: true; the input reads as it did. -/
def fnExactFoodsFindUptoRow : OpenClaim := { program := "ytmdcfgcbiegofaa", sum := "e800e25d0ae411862ce11852e525d475d3933f11f4921c68c4587fec6f0292d8", func := "loop.example/messkitchen/laws.FnExactFoodsFind", spec := "fnExactFoodsFind", unfollowed := true, recurses := true, apart := false, narrowed := true }
def FnExactFoodsFindUptoSaid : Prop := fnExactFoodsFindUptoRow.holds Try.pinned (OpenSpec.upto fnExactFoodsFindSpec)

/-- 'laws.FnFoodsFind', WHERE WHAT IT READS IS OF BULK AT MOST 1048576: true; the input reads as it did. -/
def fnFoodsFindUptoRow : OpenClaim := { program := "ytmdcfgcbiegofaa", sum := "e800e25d0ae411862ce11852e525d475d3933f11f4921c68c4587fec6f0292d8", func := "loop.example/messkitchen/laws.FnFoodsFind", spec := "fnFoodsFind", unfollowed := true, recurses := true, apart := false, narrowed := true }
def FnFoodsFindUptoSaid : Prop := fnFoodsFindUptoRow.holds Try.pinned (OpenSpec.upto fnFoodsFindSpec)

/-- 'laws.FnFoodsPlants', WHERE WHAT IT READS IS OF BULK AT MOST 1048576: true; the input reads as it did. -/
def fnFoodsPlantsUptoRow : OpenClaim := { program := "ytmdcfgcbiegofaa", sum := "e800e25d0ae411862ce11852e525d475d3933f11f4921c68c4587fec6f0292d8", func := "loop.example/messkitchen/laws.FnFoodsPlants", spec := "fnFoodsPlants", unfollowed := true, recurses := true, apart := false, narrowed := true }
def FnFoodsPlantsUptoSaid : Prop := fnFoodsPlantsUptoRow.holds Try.pinned (OpenSpec.upto fnFoodsPlantsSpec)

/-- 'laws.FnFoodsWorstMore', WHERE WHAT IT READS IS OF BULK AT MOST 1048576: true; the input reads as it did. -/
def fnFoodsWorstMoreUptoRow : OpenClaim := { program := "ytmdcfgcbiegofaa", sum := "e800e25d0ae411862ce11852e525d475d3933f11f4921c68c4587fec6f0292d8", func := "loop.example/messkitchen/laws.FnFoodsWorstMore", spec := "fnFoodsWorstMore", unfollowed := true, recurses := true, apart := false, narrowed := true }
def FnFoodsWorstMoreUptoSaid : Prop := fnFoodsWorstMoreUptoRow.holds Try.pinned (OpenSpec.upto fnFoodsWorstMoreSpec)

/-- 'laws.FnExactFoodsWorst', WHERE WHAT IT READS IS OF BULK AT MOST 1048576: true; the input reads as it did. -/
def fnExactFoodsWorstUptoRow : OpenClaim := { program := "ytmdcfgcbiegofaa", sum := "e800e25d0ae411862ce11852e525d475d3933f11f4921c68c4587fec6f0292d8", func := "loop.example/messkitchen/laws.FnExactFoodsWorst", spec := "fnExactFoodsWorst", unfollowed := true, recurses := true, apart := false, narrowed := true }
def FnExactFoodsWorstUptoSaid : Prop := fnExactFoodsWorstUptoRow.holds Try.pinned (OpenSpec.upto fnExactFoodsWorstSpec)

/-- 'laws.FnFoodsWorst', WHERE WHAT IT READS IS OF BULK AT MOST 1048576: true; the input reads as it did. -/
def fnFoodsWorstUptoRow : OpenClaim := { program := "ytmdcfgcbiegofaa", sum := "e800e25d0ae411862ce11852e525d475d3933f11f4921c68c4587fec6f0292d8", func := "loop.example/messkitchen/laws.FnFoodsWorst", spec := "fnFoodsWorst", unfollowed := true, recurses := true, apart := false, narrowed := true }
def FnFoodsWorstUptoSaid : Prop := fnFoodsWorstUptoRow.holds Try.pinned (OpenSpec.upto fnFoodsWorstSpec)

/-- 'laws.FnFoodsHarm', WHERE WHAT IT READS IS OF BULK AT MOST 1048576: true; the input reads as it did. -/
def fnFoodsHarmUptoRow : OpenClaim := { program := "ytmdcfgcbiegofaa", sum := "e800e25d0ae411862ce11852e525d475d3933f11f4921c68c4587fec6f0292d8", func := "loop.example/messkitchen/laws.FnFoodsHarm", spec := "fnFoodsHarm", apart := false, narrowed := true }
def FnFoodsHarmUptoSaid : Prop := fnFoodsHarmUptoRow.holds Try.pinned (OpenSpec.upto fnFoodsHarmSpec)

/-- 'laws.FnExactFoodsHarm', WHERE WHAT IT READS IS OF BULK AT MOST 1048576: true; the input reads as it did. -/
def fnExactFoodsHarmUptoRow : OpenClaim := { program := "ytmdcfgcbiegofaa", sum := "e800e25d0ae411862ce11852e525d475d3933f11f4921c68c4587fec6f0292d8", func := "loop.example/messkitchen/laws.FnExactFoodsHarm", spec := "fnExactFoodsHarm", apart := false, narrowed := true }
def FnExactFoodsHarmUptoSaid : Prop := fnExactFoodsHarmUptoRow.holds Try.pinned (OpenSpec.upto fnExactFoodsHarmSpec)

/-- 'laws.FnFoodsHarmMore', WHERE WHAT IT READS IS OF BULK AT MOST 1048576: true; the input reads as it did. -/
def fnFoodsHarmMoreUptoRow : OpenClaim := { program := "ytmdcfgcbiegofaa", sum := "e800e25d0ae411862ce11852e525d475d3933f11f4921c68c4587fec6f0292d8", func := "loop.example/messkitchen/laws.FnFoodsHarmMore", spec := "fnFoodsHarmMore", apart := false, narrowed := true }
def FnFoodsHarmMoreUptoSaid : Prop := fnFoodsHarmMoreUptoRow.holds Try.pinned (OpenSpec.upto fnFoodsHarmMoreSpec)

end Rows
end Go.Proofs.Ytmdcfgcbiegofaa
