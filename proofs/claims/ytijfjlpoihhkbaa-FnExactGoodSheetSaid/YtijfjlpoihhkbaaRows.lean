/-
  No cell of these rows narrows 'for every input' (looked for: loops, veiled, ifaces, maps, wideKeys, modest, calm, conditions, laid).
  DERIVED. THE GIVEN ROWS OF THIS SEAT. 12 by the template 'for every input the law returns true; each argument reads behind the call as it read before'; 0 by the template 'total and deterministic' (their statements: YtijfjlpoihhkbaaTotals.lean).
  GIVEN WITH THE SEED: the statements are not yours to turn. If you find one false, say at which input.
  Laid BY PROGRAM, IN A SANDBOX (cutbox-rows.mjs): the forced cells as the released guide's own fill.sh prints them over the translation a90119d535ef659c… (all of the seat's roots in one cut). By AI agents, Wed Nov 11 2026. No macro, syntax, notation, axiom, sorry.
-/
import Derived.Test.YtijfjlpoihhkbaaChecked
import GoSem.Claim
import GoSem.ClaimJoined
import GoSem.ClaimMapViews
import Derived.JoinedTies
import Derived.KernelRfl
namespace Go.Proofs.Ytijfjlpoihhkbaa
/- THE CELL 'sum', in the pinned program and in every row, IS THE sha256 OF THE DUMP (.gsa) THAT YtijfjlpoihhkbaaProg.lean LOADS. Nothing in Lean hashes anything: it is a label: what it is worth is what the hold of that sum in a sandbox is worth. -/
noncomputable def Try.pinned : Pinned := { name := "ytijfjlpoihhkbaa", sum := "a90119d535ef659cac37ee530f618806b4aa9c9fcd551a8282feab3e77af9fb7", checked := Try.checked }
namespace Rows
def none {H : Type} : Left H := { results := [], args := [] }

/-- 'laws.FnExactGoodItem': WHATEVER THE INPUT: true; the input reads as it did. -/
def fnExactGoodItemSpec : ChangeSpec := { name := "fnExactGoodItem", fn := fun _ => fun
  | [d] => { results := [.lit (.bool true)], args := [d] }
  | _ => none }
def fnExactGoodItemRow : OpenClaim := { program := "ytijfjlpoihhkbaa", sum := "a90119d535ef659cac37ee530f618806b4aa9c9fcd551a8282feab3e77af9fb7", func := "loop.example/g00064/laws.FnExactGoodItem", spec := "fnExactGoodItem", apart := false }
def FnExactGoodItemSaid : Prop := fnExactGoodItemRow.holds Try.pinned (OpenSpec.ofChange fnExactGoodItemSpec)

/-- ITS FALSE NEIGHBOUR: 'it returns false'. Refute it at one input. -/
def fnExactGoodItemWrong : ChangeSpec := { name := "fnExactGoodItem", fn := fun _ => fun
  | [d] => { results := [.lit (.bool false)], args := [d] }
  | _ => none }
def FnExactGoodItemWrongFalsely : Prop := fnExactGoodItemRow.holds Try.pinned (OpenSpec.ofChange fnExactGoodItemWrong)

/-- 'laws.FnExactRateAfter': WHATEVER THE INPUT: true; the input reads as it did. -/
def fnExactRateAfterSpec : ChangeSpec := { name := "fnExactRateAfter", fn := fun _ => fun
  | [d1, d2, d3] => { results := [.lit (.bool true)], args := [d1, d2, d3] }
  | _ => none }
def fnExactRateAfterRow : OpenClaim := { program := "ytijfjlpoihhkbaa", sum := "a90119d535ef659cac37ee530f618806b4aa9c9fcd551a8282feab3e77af9fb7", func := "loop.example/g00064/laws.FnExactRateAfter", spec := "fnExactRateAfter", apart := false }
def FnExactRateAfterSaid : Prop := fnExactRateAfterRow.holds Try.pinned (OpenSpec.ofChange fnExactRateAfterSpec)

/-- ITS FALSE NEIGHBOUR: 'it returns false'. Refute it at one input. -/
def fnExactRateAfterWrong : ChangeSpec := { name := "fnExactRateAfter", fn := fun _ => fun
  | [d1, d2, d3] => { results := [.lit (.bool false)], args := [d1, d2, d3] }
  | _ => none }
def FnExactRateAfterWrongFalsely : Prop := fnExactRateAfterRow.holds Try.pinned (OpenSpec.ofChange fnExactRateAfterWrong)

/-- 'laws.FnExactFirstSplit': WHATEVER THE INPUT: true; the input reads as it did. -/
def fnExactFirstSplitSpec : ChangeSpec := { name := "fnExactFirstSplit", fn := fun _ => fun
  | [d1, d2] => { results := [.lit (.bool true)], args := [d1, d2] }
  | _ => none }
def fnExactFirstSplitRow : OpenClaim := { program := "ytijfjlpoihhkbaa", sum := "a90119d535ef659cac37ee530f618806b4aa9c9fcd551a8282feab3e77af9fb7", func := "loop.example/g00064/laws.FnExactFirstSplit", spec := "fnExactFirstSplit", apart := false }
def FnExactFirstSplitSaid : Prop := fnExactFirstSplitRow.holds Try.pinned (OpenSpec.ofChange fnExactFirstSplitSpec)

/-- ITS FALSE NEIGHBOUR: 'it returns false'. Refute it at one input. -/
def fnExactFirstSplitWrong : ChangeSpec := { name := "fnExactFirstSplit", fn := fun _ => fun
  | [d1, d2] => { results := [.lit (.bool false)], args := [d1, d2] }
  | _ => none }
def FnExactFirstSplitWrongFalsely : Prop := fnExactFirstSplitRow.holds Try.pinned (OpenSpec.ofChange fnExactFirstSplitWrong)

/-- 'laws.FnExactNextHost': WHATEVER THE INPUT: true; the input reads as it did. -/
def fnExactNextHostSpec : ChangeSpec := { name := "fnExactNextHost", fn := fun _ => fun
  | [d1, d2] => { results := [.lit (.bool true)], args := [d1, d2] }
  | _ => none }
def fnExactNextHostRow : OpenClaim := { program := "ytijfjlpoihhkbaa", sum := "a90119d535ef659cac37ee530f618806b4aa9c9fcd551a8282feab3e77af9fb7", func := "loop.example/g00064/laws.FnExactNextHost", spec := "fnExactNextHost", apart := false }
def FnExactNextHostSaid : Prop := fnExactNextHostRow.holds Try.pinned (OpenSpec.ofChange fnExactNextHostSpec)

/-- ITS FALSE NEIGHBOUR: 'it returns false'. Refute it at one input. -/
def fnExactNextHostWrong : ChangeSpec := { name := "fnExactNextHost", fn := fun _ => fun
  | [d1, d2] => { results := [.lit (.bool false)], args := [d1, d2] }
  | _ => none }
def FnExactNextHostWrongFalsely : Prop := fnExactNextHostRow.holds Try.pinned (OpenSpec.ofChange fnExactNextHostWrong)

/-- 'laws.FnExactSortKey': WHATEVER THE INPUT: true; the input reads as it did. -/
def fnExactSortKeySpec : ChangeSpec := { name := "fnExactSortKey", fn := fun _ => fun
  | [d] => { results := [.lit (.bool true)], args := [d] }
  | _ => none }
def fnExactSortKeyRow : OpenClaim := { program := "ytijfjlpoihhkbaa", sum := "a90119d535ef659cac37ee530f618806b4aa9c9fcd551a8282feab3e77af9fb7", func := "loop.example/g00064/laws.FnExactSortKey", spec := "fnExactSortKey", apart := false }
def FnExactSortKeySaid : Prop := fnExactSortKeyRow.holds Try.pinned (OpenSpec.ofChange fnExactSortKeySpec)

/-- ITS FALSE NEIGHBOUR: 'it returns false'. Refute it at one input. -/
def fnExactSortKeyWrong : ChangeSpec := { name := "fnExactSortKey", fn := fun _ => fun
  | [d] => { results := [.lit (.bool false)], args := [d] }
  | _ => none }
def FnExactSortKeyWrongFalsely : Prop := fnExactSortKeyRow.holds Try.pinned (OpenSpec.ofChange fnExactSortKeyWrong)

/-- 'laws.FnExactKeyParts': WHATEVER THE INPUT: true; the input reads as it did. -/
def fnExactKeyPartsSpec : ChangeSpec := { name := "fnExactKeyParts", fn := fun _ => fun
  | [d] => { results := [.lit (.bool true)], args := [d] }
  | _ => none }
def fnExactKeyPartsRow : OpenClaim := { program := "ytijfjlpoihhkbaa", sum := "a90119d535ef659cac37ee530f618806b4aa9c9fcd551a8282feab3e77af9fb7", func := "loop.example/g00064/laws.FnExactKeyParts", spec := "fnExactKeyParts", apart := false }
def FnExactKeyPartsSaid : Prop := fnExactKeyPartsRow.holds Try.pinned (OpenSpec.ofChange fnExactKeyPartsSpec)

/-- ITS FALSE NEIGHBOUR: 'it returns false'. Refute it at one input. -/
def fnExactKeyPartsWrong : ChangeSpec := { name := "fnExactKeyParts", fn := fun _ => fun
  | [d] => { results := [.lit (.bool false)], args := [d] }
  | _ => none }
def FnExactKeyPartsWrongFalsely : Prop := fnExactKeyPartsRow.holds Try.pinned (OpenSpec.ofChange fnExactKeyPartsWrong)

/-- 'laws.FnExactGoodBits': WHATEVER THE INPUT: true; the input reads as it did. -/
def fnExactGoodBitsSpec : ChangeSpec := { name := "fnExactGoodBits", fn := fun _ => fun
  | [d] => { results := [.lit (.bool true)], args := [d] }
  | _ => none }
def fnExactGoodBitsRow : OpenClaim := { program := "ytijfjlpoihhkbaa", sum := "a90119d535ef659cac37ee530f618806b4aa9c9fcd551a8282feab3e77af9fb7", func := "loop.example/g00064/laws.FnExactGoodBits", spec := "fnExactGoodBits", apart := false }
def FnExactGoodBitsSaid : Prop := fnExactGoodBitsRow.holds Try.pinned (OpenSpec.ofChange fnExactGoodBitsSpec)

/-- ITS FALSE NEIGHBOUR: 'it returns false'. Refute it at one input. -/
def fnExactGoodBitsWrong : ChangeSpec := { name := "fnExactGoodBits", fn := fun _ => fun
  | [d] => { results := [.lit (.bool false)], args := [d] }
  | _ => none }
def FnExactGoodBitsWrongFalsely : Prop := fnExactGoodBitsRow.holds Try.pinned (OpenSpec.ofChange fnExactGoodBitsWrong)

/-- 'laws.FnExactWideAt': WHATEVER THE INPUT: true; the input reads as it did. -/
def fnExactWideAtSpec : ChangeSpec := { name := "fnExactWideAt", fn := fun _ => fun
  | [d1, d2] => { results := [.lit (.bool true)], args := [d1, d2] }
  | _ => none }
def fnExactWideAtRow : OpenClaim := { program := "ytijfjlpoihhkbaa", sum := "a90119d535ef659cac37ee530f618806b4aa9c9fcd551a8282feab3e77af9fb7", func := "loop.example/g00064/laws.FnExactWideAt", spec := "fnExactWideAt", apart := false }
def FnExactWideAtSaid : Prop := fnExactWideAtRow.holds Try.pinned (OpenSpec.ofChange fnExactWideAtSpec)

/-- ITS FALSE NEIGHBOUR: 'it returns false'. Refute it at one input. -/
def fnExactWideAtWrong : ChangeSpec := { name := "fnExactWideAt", fn := fun _ => fun
  | [d1, d2] => { results := [.lit (.bool false)], args := [d1, d2] }
  | _ => none }
def FnExactWideAtWrongFalsely : Prop := fnExactWideAtRow.holds Try.pinned (OpenSpec.ofChange fnExactWideAtWrong)

/-- 'laws.FnExactGoodThings': WHATEVER THE INPUT: true; the input reads as it did. -/
def fnExactGoodThingsSpec : ChangeSpec := { name := "fnExactGoodThings", fn := fun _ => fun
  | [d] => { results := [.lit (.bool true)], args := [d] }
  | _ => none }
def fnExactGoodThingsRow : OpenClaim := { program := "ytijfjlpoihhkbaa", sum := "a90119d535ef659cac37ee530f618806b4aa9c9fcd551a8282feab3e77af9fb7", func := "loop.example/g00064/laws.FnExactGoodThings", spec := "fnExactGoodThings", apart := false }
def FnExactGoodThingsSaid : Prop := fnExactGoodThingsRow.holds Try.pinned (OpenSpec.ofChange fnExactGoodThingsSpec)

/-- ITS FALSE NEIGHBOUR: 'it returns false'. Refute it at one input. -/
def fnExactGoodThingsWrong : ChangeSpec := { name := "fnExactGoodThings", fn := fun _ => fun
  | [d] => { results := [.lit (.bool false)], args := [d] }
  | _ => none }
def FnExactGoodThingsWrongFalsely : Prop := fnExactGoodThingsRow.holds Try.pinned (OpenSpec.ofChange fnExactGoodThingsWrong)

/-- 'laws.FnExactGoodSheet': WHATEVER THE INPUT: true; the input reads as it did. -/
def fnExactGoodSheetSpec : ChangeSpec := { name := "fnExactGoodSheet", fn := fun _ => fun
  | [d] => { results := [.lit (.bool true)], args := [d] }
  | _ => none }
def fnExactGoodSheetRow : OpenClaim := { program := "ytijfjlpoihhkbaa", sum := "a90119d535ef659cac37ee530f618806b4aa9c9fcd551a8282feab3e77af9fb7", func := "loop.example/g00064/laws.FnExactGoodSheet", spec := "fnExactGoodSheet", unfollowed := true, recurses := true, apart := false }
def FnExactGoodSheetSaid : Prop := fnExactGoodSheetRow.holds Try.pinned (OpenSpec.ofChange fnExactGoodSheetSpec)

/-- ITS FALSE NEIGHBOUR: 'it returns false'. Refute it at one input. -/
def fnExactGoodSheetWrong : ChangeSpec := { name := "fnExactGoodSheet", fn := fun _ => fun
  | [d] => { results := [.lit (.bool false)], args := [d] }
  | _ => none }
def FnExactGoodSheetWrongFalsely : Prop := fnExactGoodSheetRow.holds Try.pinned (OpenSpec.ofChange fnExactGoodSheetWrong)

/-- 'laws.FnExactTakeBits': WHATEVER THE INPUT: true; the input reads as it did. -/
def fnExactTakeBitsSpec : ChangeSpec := { name := "fnExactTakeBits", fn := fun _ => fun
  | [d1, d2, d3] => { results := [.lit (.bool true)], args := [d1, d2, d3] }
  | _ => none }
def fnExactTakeBitsRow : OpenClaim := { program := "ytijfjlpoihhkbaa", sum := "a90119d535ef659cac37ee530f618806b4aa9c9fcd551a8282feab3e77af9fb7", func := "loop.example/g00064/laws.FnExactTakeBits", spec := "fnExactTakeBits", apart := false }
def FnExactTakeBitsSaid : Prop := fnExactTakeBitsRow.holds Try.pinned (OpenSpec.ofChange fnExactTakeBitsSpec)

/-- ITS FALSE NEIGHBOUR: 'it returns false'. Refute it at one input. -/
def fnExactTakeBitsWrong : ChangeSpec := { name := "fnExactTakeBits", fn := fun _ => fun
  | [d1, d2, d3] => { results := [.lit (.bool false)], args := [d1, d2, d3] }
  | _ => none }
def FnExactTakeBitsWrongFalsely : Prop := fnExactTakeBitsRow.holds Try.pinned (OpenSpec.ofChange fnExactTakeBitsWrong)

/-- 'laws.FnExactStartGame': WHATEVER THE INPUT: true; the input reads as it did. -/
def fnExactStartGameSpec : ChangeSpec := { name := "fnExactStartGame", fn := fun _ => fun
  | [d1, d2] => { results := [.lit (.bool true)], args := [d1, d2] }
  | _ => none }
def fnExactStartGameRow : OpenClaim := { program := "ytijfjlpoihhkbaa", sum := "a90119d535ef659cac37ee530f618806b4aa9c9fcd551a8282feab3e77af9fb7", func := "loop.example/g00064/laws.FnExactStartGame", spec := "fnExactStartGame", apart := false }
def FnExactStartGameSaid : Prop := fnExactStartGameRow.holds Try.pinned (OpenSpec.ofChange fnExactStartGameSpec)

/-- ITS FALSE NEIGHBOUR: 'it returns false'. Refute it at one input. -/
def fnExactStartGameWrong : ChangeSpec := { name := "fnExactStartGame", fn := fun _ => fun
  | [d1, d2] => { results := [.lit (.bool false)], args := [d1, d2] }
  | _ => none }
def FnExactStartGameWrongFalsely : Prop := fnExactStartGameRow.holds Try.pinned (OpenSpec.ofChange fnExactStartGameWrong)

/- THE SECOND FORM. 'bulk': how many values and letters a reading holds, each counted each time it is reached (what is shared counts as often as it is met; a slice's spare places count too). A statement '..UptoSaid' is the law's where the arguments, and the package variables that the reading takes, are together of bulk at most 1048576: NARROWER than '..Said'. Prove '..Said' where nothing that the law and all that it calls make is longer than what came in: it says more and counts as full. Else prove '..UptoSaid'. A law counts once. -/
mutual
def uptoBulk {H : Type} : DataW H → Nat
  | .lit (.string bytes) => bytes.length + 1
  | .lit _ => 1
  | .nil => 1
  | .ptr d => uptoBulk d + 1
  | .slice elems spare => uptoBulkAll elems + uptoBulkAll spare + 1
  | .agg parts => uptoBulkAll parts + 1
  | .iface _ d => uptoBulk d + 1
  | .map entries => uptoBulkEntries entries + 1
  | .held _ => 1
def uptoBulkAll {H : Type} : List (DataW H) → Nat
  | [] => 0
  | d :: r => uptoBulk d + uptoBulkAll r
def uptoBulkEntries {H : Type} : List (Lit × DataW H) → Nat
  | [] => 0
  | x :: r => uptoBulkEntry x + uptoBulkEntries r
def uptoBulkEntry {H : Type} : Lit × DataW H → Nat
  | (.string bytes, d) => bytes.length + uptoBulk d + 1
  | (_, d) => uptoBulk d + 1
 end
def uptoSmall : (H : Type) → List (DataW H) → Bool := fun _ ds => decide (uptoBulkAll ds ≤ 1048576)
def OpenSpec.upto (s : _root_.Go.ChangeSpec) : _root_.Go.OpenSpec := { _root_.Go.OpenSpec.ofChange s with cond := some uptoSmall }

/-- 'laws.FnExactGoodItem', WHERE WHAT IT READS IS OF BULK AT MOST 1048576: true; the input reads as it did. -/
def fnExactGoodItemUptoRow : OpenClaim := { program := "ytijfjlpoihhkbaa", sum := "a90119d535ef659cac37ee530f618806b4aa9c9fcd551a8282feab3e77af9fb7", func := "loop.example/g00064/laws.FnExactGoodItem", spec := "fnExactGoodItem", apart := false, narrowed := true }
def FnExactGoodItemUptoSaid : Prop := fnExactGoodItemUptoRow.holds Try.pinned (OpenSpec.upto fnExactGoodItemSpec)

/-- 'laws.FnExactRateAfter', WHERE WHAT IT READS IS OF BULK AT MOST 1048576: true; the input reads as it did. -/
def fnExactRateAfterUptoRow : OpenClaim := { program := "ytijfjlpoihhkbaa", sum := "a90119d535ef659cac37ee530f618806b4aa9c9fcd551a8282feab3e77af9fb7", func := "loop.example/g00064/laws.FnExactRateAfter", spec := "fnExactRateAfter", apart := false, narrowed := true }
def FnExactRateAfterUptoSaid : Prop := fnExactRateAfterUptoRow.holds Try.pinned (OpenSpec.upto fnExactRateAfterSpec)

/-- 'laws.FnExactFirstSplit', WHERE WHAT IT READS IS OF BULK AT MOST 1048576: true; the input reads as it did. -/
def fnExactFirstSplitUptoRow : OpenClaim := { program := "ytijfjlpoihhkbaa", sum := "a90119d535ef659cac37ee530f618806b4aa9c9fcd551a8282feab3e77af9fb7", func := "loop.example/g00064/laws.FnExactFirstSplit", spec := "fnExactFirstSplit", apart := false, narrowed := true }
def FnExactFirstSplitUptoSaid : Prop := fnExactFirstSplitUptoRow.holds Try.pinned (OpenSpec.upto fnExactFirstSplitSpec)

/-- 'laws.FnExactNextHost', WHERE WHAT IT READS IS OF BULK AT MOST 1048576: true; the input reads as it did. -/
def fnExactNextHostUptoRow : OpenClaim := { program := "ytijfjlpoihhkbaa", sum := "a90119d535ef659cac37ee530f618806b4aa9c9fcd551a8282feab3e77af9fb7", func := "loop.example/g00064/laws.FnExactNextHost", spec := "fnExactNextHost", apart := false, narrowed := true }
def FnExactNextHostUptoSaid : Prop := fnExactNextHostUptoRow.holds Try.pinned (OpenSpec.upto fnExactNextHostSpec)

/-- 'laws.FnExactSortKey', WHERE WHAT IT READS IS OF BULK AT MOST 1048576: true; the input reads as it did. -/
def fnExactSortKeyUptoRow : OpenClaim := { program := "ytijfjlpoihhkbaa", sum := "a90119d535ef659cac37ee530f618806b4aa9c9fcd551a8282feab3e77af9fb7", func := "loop.example/g00064/laws.FnExactSortKey", spec := "fnExactSortKey", apart := false, narrowed := true }
def FnExactSortKeyUptoSaid : Prop := fnExactSortKeyUptoRow.holds Try.pinned (OpenSpec.upto fnExactSortKeySpec)

/-- 'laws.FnExactKeyParts', WHERE WHAT IT READS IS OF BULK AT MOST 1048576: true; the input reads as it did. -/
def fnExactKeyPartsUptoRow : OpenClaim := { program := "ytijfjlpoihhkbaa", sum := "a90119d535ef659cac37ee530f618806b4aa9c9fcd551a8282feab3e77af9fb7", func := "loop.example/g00064/laws.FnExactKeyParts", spec := "fnExactKeyParts", apart := false, narrowed := true }
def FnExactKeyPartsUptoSaid : Prop := fnExactKeyPartsUptoRow.holds Try.pinned (OpenSpec.upto fnExactKeyPartsSpec)

/-- 'laws.FnExactGoodBits', WHERE WHAT IT READS IS OF BULK AT MOST 1048576: true; the input reads as it did. -/
def fnExactGoodBitsUptoRow : OpenClaim := { program := "ytijfjlpoihhkbaa", sum := "a90119d535ef659cac37ee530f618806b4aa9c9fcd551a8282feab3e77af9fb7", func := "loop.example/g00064/laws.FnExactGoodBits", spec := "fnExactGoodBits", apart := false, narrowed := true }
def FnExactGoodBitsUptoSaid : Prop := fnExactGoodBitsUptoRow.holds Try.pinned (OpenSpec.upto fnExactGoodBitsSpec)

/-- 'laws.FnExactWideAt', WHERE WHAT IT READS IS OF BULK AT MOST 1048576: true; the input reads as it did. -/
def fnExactWideAtUptoRow : OpenClaim := { program := "ytijfjlpoihhkbaa", sum := "a90119d535ef659cac37ee530f618806b4aa9c9fcd551a8282feab3e77af9fb7", func := "loop.example/g00064/laws.FnExactWideAt", spec := "fnExactWideAt", apart := false, narrowed := true }
def FnExactWideAtUptoSaid : Prop := fnExactWideAtUptoRow.holds Try.pinned (OpenSpec.upto fnExactWideAtSpec)

/-- 'laws.FnExactGoodThings', WHERE WHAT IT READS IS OF BULK AT MOST 1048576: true; the input reads as it did. -/
def fnExactGoodThingsUptoRow : OpenClaim := { program := "ytijfjlpoihhkbaa", sum := "a90119d535ef659cac37ee530f618806b4aa9c9fcd551a8282feab3e77af9fb7", func := "loop.example/g00064/laws.FnExactGoodThings", spec := "fnExactGoodThings", apart := false, narrowed := true }
def FnExactGoodThingsUptoSaid : Prop := fnExactGoodThingsUptoRow.holds Try.pinned (OpenSpec.upto fnExactGoodThingsSpec)

/-- 'laws.FnExactGoodSheet', WHERE WHAT IT READS IS OF BULK AT MOST 1048576: true; the input reads as it did. -/
def fnExactGoodSheetUptoRow : OpenClaim := { program := "ytijfjlpoihhkbaa", sum := "a90119d535ef659cac37ee530f618806b4aa9c9fcd551a8282feab3e77af9fb7", func := "loop.example/g00064/laws.FnExactGoodSheet", spec := "fnExactGoodSheet", unfollowed := true, recurses := true, apart := false, narrowed := true }
def FnExactGoodSheetUptoSaid : Prop := fnExactGoodSheetUptoRow.holds Try.pinned (OpenSpec.upto fnExactGoodSheetSpec)

/-- 'laws.FnExactTakeBits', WHERE WHAT IT READS IS OF BULK AT MOST 1048576: true; the input reads as it did. -/
def fnExactTakeBitsUptoRow : OpenClaim := { program := "ytijfjlpoihhkbaa", sum := "a90119d535ef659cac37ee530f618806b4aa9c9fcd551a8282feab3e77af9fb7", func := "loop.example/g00064/laws.FnExactTakeBits", spec := "fnExactTakeBits", apart := false, narrowed := true }
def FnExactTakeBitsUptoSaid : Prop := fnExactTakeBitsUptoRow.holds Try.pinned (OpenSpec.upto fnExactTakeBitsSpec)

/-- 'laws.FnExactStartGame', WHERE WHAT IT READS IS OF BULK AT MOST 1048576: true; the input reads as it did. -/
def fnExactStartGameUptoRow : OpenClaim := { program := "ytijfjlpoihhkbaa", sum := "a90119d535ef659cac37ee530f618806b4aa9c9fcd551a8282feab3e77af9fb7", func := "loop.example/g00064/laws.FnExactStartGame", spec := "fnExactStartGame", apart := false, narrowed := true }
def FnExactStartGameUptoSaid : Prop := fnExactStartGameUptoRow.holds Try.pinned (OpenSpec.upto fnExactStartGameSpec)

end Rows
end Go.Proofs.Ytijfjlpoihhkbaa
