/-
  No cell of these rows narrows 'for every input' (looked for: loops, veiled, ifaces, maps, wideKeys, modest, calm, conditions, laid).
  DERIVED. THE GIVEN ROWS OF THIS SEAT. 10 by the template 'for every input the law returns true; each argument reads behind the call as it read before'; 0 by the template 'total and deterministic' (their statements: YtfghbecipdjcdaaTotals.lean).
  GIVEN WITH THE SEED: the statements are not yours to turn. If you find one false, say at which input.
  Laid BY PROGRAM, IN A SANDBOX (cutbox-rows.mjs): the forced cells as the released guide's own fill.sh prints them over the translation 8f84958b15f3f353… (all of the seat's roots in one cut). By AI agents, Wed Nov 11 2026. No macro, syntax, notation, axiom, sorry.
-/
import Derived.Test.YtfghbecipdjcdaaChecked
import GoSem.Claim
import GoSem.ClaimJoined
import GoSem.ClaimMapViews
import Derived.JoinedTies
import Derived.KernelRfl
namespace Go.Proofs.Ytfghbecipdjcdaa
/- THE CELL 'sum', in the pinned program and in every row, IS THE sha256 OF THE DUMP (.gsa) THAT YtfghbecipdjcdaaProg.lean LOADS. Nothing in Lean hashes anything: it is a label: what it is worth is what the hold of that sum in a sandbox is worth. -/
noncomputable def Try.pinned : Pinned := { name := "ytfghbecipdjcdaa", sum := "8f84958b15f3f35302f9fe014c373a2f89cdbd7eb631a2743ac7aa6c4eeee7eb", checked := Try.checked }
namespace Rows
def none {H : Type} : Left H := { results := [], args := [] }

/-- 'laws.FnPairs': WHATEVER THE INPUT: true; the input reads as it did. -/
def fnPairsSpec : ChangeSpec := { name := "fnPairs", fn := fun _ => fun
  | [d1, d2] => { results := [.lit (.bool true)], args := [d1, d2] }
  | _ => none }
def fnPairsRow : OpenClaim := { program := "ytfghbecipdjcdaa", sum := "8f84958b15f3f35302f9fe014c373a2f89cdbd7eb631a2743ac7aa6c4eeee7eb", func := "loop.example/g00064/laws.FnPairs", spec := "fnPairs", unfollowed := true, recurses := true, apart := false }
def FnPairsSaid : Prop := fnPairsRow.holds Try.pinned (OpenSpec.ofChange fnPairsSpec)

/-- ITS FALSE NEIGHBOUR: 'it returns false'. Refute it at one input. -/
def fnPairsWrong : ChangeSpec := { name := "fnPairs", fn := fun _ => fun
  | [d1, d2] => { results := [.lit (.bool false)], args := [d1, d2] }
  | _ => none }
def FnPairsWrongFalsely : Prop := fnPairsRow.holds Try.pinned (OpenSpec.ofChange fnPairsWrong)

/-- 'laws.FnExactGoodGame': WHATEVER THE INPUT: true; the input reads as it did. -/
def fnExactGoodGameSpec : ChangeSpec := { name := "fnExactGoodGame", fn := fun _ => fun
  | [d] => { results := [.lit (.bool true)], args := [d] }
  | _ => none }
def fnExactGoodGameRow : OpenClaim := { program := "ytfghbecipdjcdaa", sum := "8f84958b15f3f35302f9fe014c373a2f89cdbd7eb631a2743ac7aa6c4eeee7eb", func := "loop.example/g00064/laws.FnExactGoodGame", spec := "fnExactGoodGame", unfollowed := true, recurses := true, apart := false }
def FnExactGoodGameSaid : Prop := fnExactGoodGameRow.holds Try.pinned (OpenSpec.ofChange fnExactGoodGameSpec)

/-- ITS FALSE NEIGHBOUR: 'it returns false'. Refute it at one input. -/
def fnExactGoodGameWrong : ChangeSpec := { name := "fnExactGoodGame", fn := fun _ => fun
  | [d] => { results := [.lit (.bool false)], args := [d] }
  | _ => none }
def FnExactGoodGameWrongFalsely : Prop := fnExactGoodGameRow.holds Try.pinned (OpenSpec.ofChange fnExactGoodGameWrong)

/-- 'laws.FnExactSheetSum': WHATEVER THE INPUT: true; the input reads as it did. -/
def fnExactSheetSumSpec : ChangeSpec := { name := "fnExactSheetSum", fn := fun _ => fun
  | [d] => { results := [.lit (.bool true)], args := [d] }
  | _ => none }
def fnExactSheetSumRow : OpenClaim := { program := "ytfghbecipdjcdaa", sum := "8f84958b15f3f35302f9fe014c373a2f89cdbd7eb631a2743ac7aa6c4eeee7eb", func := "loop.example/g00064/laws.FnExactSheetSum", spec := "fnExactSheetSum", unfollowed := true, recurses := true, apart := false }
def FnExactSheetSumSaid : Prop := fnExactSheetSumRow.holds Try.pinned (OpenSpec.ofChange fnExactSheetSumSpec)

/-- ITS FALSE NEIGHBOUR: 'it returns false'. Refute it at one input. -/
def fnExactSheetSumWrong : ChangeSpec := { name := "fnExactSheetSum", fn := fun _ => fun
  | [d] => { results := [.lit (.bool false)], args := [d] }
  | _ => none }
def FnExactSheetSumWrongFalsely : Prop := fnExactSheetSumRow.holds Try.pinned (OpenSpec.ofChange fnExactSheetSumWrong)

/-- 'laws.FnExactGoodValues': WHATEVER THE INPUT: true; the input reads as it did. -/
def fnExactGoodValuesSpec : ChangeSpec := { name := "fnExactGoodValues", fn := fun _ => fun
  | [d] => { results := [.lit (.bool true)], args := [d] }
  | _ => none }
def fnExactGoodValuesRow : OpenClaim := { program := "ytfghbecipdjcdaa", sum := "8f84958b15f3f35302f9fe014c373a2f89cdbd7eb631a2743ac7aa6c4eeee7eb", func := "loop.example/g00064/laws.FnExactGoodValues", spec := "fnExactGoodValues", apart := false }
def FnExactGoodValuesSaid : Prop := fnExactGoodValuesRow.holds Try.pinned (OpenSpec.ofChange fnExactGoodValuesSpec)

/-- ITS FALSE NEIGHBOUR: 'it returns false'. Refute it at one input. -/
def fnExactGoodValuesWrong : ChangeSpec := { name := "fnExactGoodValues", fn := fun _ => fun
  | [d] => { results := [.lit (.bool false)], args := [d] }
  | _ => none }
def FnExactGoodValuesWrongFalsely : Prop := fnExactGoodValuesRow.holds Try.pinned (OpenSpec.ofChange fnExactGoodValuesWrong)

/-- 'laws.FnExactGoodChanges': WHATEVER THE INPUT: true; the input reads as it did. -/
def fnExactGoodChangesSpec : ChangeSpec := { name := "fnExactGoodChanges", fn := fun _ => fun
  | [d] => { results := [.lit (.bool true)], args := [d] }
  | _ => none }
def fnExactGoodChangesRow : OpenClaim := { program := "ytfghbecipdjcdaa", sum := "8f84958b15f3f35302f9fe014c373a2f89cdbd7eb631a2743ac7aa6c4eeee7eb", func := "loop.example/g00064/laws.FnExactGoodChanges", spec := "fnExactGoodChanges", apart := false }
def FnExactGoodChangesSaid : Prop := fnExactGoodChangesRow.holds Try.pinned (OpenSpec.ofChange fnExactGoodChangesSpec)

/-- ITS FALSE NEIGHBOUR: 'it returns false'. Refute it at one input. -/
def fnExactGoodChangesWrong : ChangeSpec := { name := "fnExactGoodChanges", fn := fun _ => fun
  | [d] => { results := [.lit (.bool false)], args := [d] }
  | _ => none }
def FnExactGoodChangesWrongFalsely : Prop := fnExactGoodChangesRow.holds Try.pinned (OpenSpec.ofChange fnExactGoodChangesWrong)

/-- 'laws.FnPatched': WHATEVER THE INPUT: true; the input reads as it did. -/
def fnPatchedSpec : ChangeSpec := { name := "fnPatched", fn := fun _ => fun
  | [d] => { results := [.lit (.bool true)], args := [d] }
  | _ => none }
def fnPatchedRow : OpenClaim := { program := "ytfghbecipdjcdaa", sum := "8f84958b15f3f35302f9fe014c373a2f89cdbd7eb631a2743ac7aa6c4eeee7eb", func := "loop.example/g00064/laws.FnPatched", spec := "fnPatched", apart := false }
def FnPatchedSaid : Prop := fnPatchedRow.holds Try.pinned (OpenSpec.ofChange fnPatchedSpec)

/-- ITS FALSE NEIGHBOUR: 'it returns false'. Refute it at one input. -/
def fnPatchedWrong : ChangeSpec := { name := "fnPatched", fn := fun _ => fun
  | [d] => { results := [.lit (.bool false)], args := [d] }
  | _ => none }
def FnPatchedWrongFalsely : Prop := fnPatchedRow.holds Try.pinned (OpenSpec.ofChange fnPatchedWrong)

/-- 'laws.FnExactGameSum': WHATEVER THE INPUT: true; the input reads as it did. -/
def fnExactGameSumSpec : ChangeSpec := { name := "fnExactGameSum", fn := fun _ => fun
  | [d] => { results := [.lit (.bool true)], args := [d] }
  | _ => none }
def fnExactGameSumRow : OpenClaim := { program := "ytfghbecipdjcdaa", sum := "8f84958b15f3f35302f9fe014c373a2f89cdbd7eb631a2743ac7aa6c4eeee7eb", func := "loop.example/g00064/laws.FnExactGameSum", spec := "fnExactGameSum", unfollowed := true, recurses := true, apart := false }
def FnExactGameSumSaid : Prop := fnExactGameSumRow.holds Try.pinned (OpenSpec.ofChange fnExactGameSumSpec)

/-- ITS FALSE NEIGHBOUR: 'it returns false'. Refute it at one input. -/
def fnExactGameSumWrong : ChangeSpec := { name := "fnExactGameSum", fn := fun _ => fun
  | [d] => { results := [.lit (.bool false)], args := [d] }
  | _ => none }
def FnExactGameSumWrongFalsely : Prop := fnExactGameSumRow.holds Try.pinned (OpenSpec.ofChange fnExactGameSumWrong)

/-- 'laws.FnExactPutBits': WHATEVER THE INPUT: true; the input reads as it did. -/
def fnExactPutBitsSpec : ChangeSpec := { name := "fnExactPutBits", fn := fun _ => fun
  | [d1, d2, d3] => { results := [.lit (.bool true)], args := [d1, d2, d3] }
  | _ => none }
def fnExactPutBitsRow : OpenClaim := { program := "ytfghbecipdjcdaa", sum := "8f84958b15f3f35302f9fe014c373a2f89cdbd7eb631a2743ac7aa6c4eeee7eb", func := "loop.example/g00064/laws.FnExactPutBits", spec := "fnExactPutBits", apart := false }
def FnExactPutBitsSaid : Prop := fnExactPutBitsRow.holds Try.pinned (OpenSpec.ofChange fnExactPutBitsSpec)

/-- ITS FALSE NEIGHBOUR: 'it returns false'. Refute it at one input. -/
def fnExactPutBitsWrong : ChangeSpec := { name := "fnExactPutBits", fn := fun _ => fun
  | [d1, d2, d3] => { results := [.lit (.bool false)], args := [d1, d2, d3] }
  | _ => none }
def FnExactPutBitsWrongFalsely : Prop := fnExactPutBitsRow.holds Try.pinned (OpenSpec.ofChange fnExactPutBitsWrong)

/-- 'laws.FnExactPatchOf': WHATEVER THE INPUT: true; the input reads as it did. -/
def fnExactPatchOfSpec : ChangeSpec := { name := "fnExactPatchOf", fn := fun _ => fun
  | [d1, d2] => { results := [.lit (.bool true)], args := [d1, d2] }
  | _ => none }
def fnExactPatchOfRow : OpenClaim := { program := "ytfghbecipdjcdaa", sum := "8f84958b15f3f35302f9fe014c373a2f89cdbd7eb631a2743ac7aa6c4eeee7eb", func := "loop.example/g00064/laws.FnExactPatchOf", spec := "fnExactPatchOf", apart := false }
def FnExactPatchOfSaid : Prop := fnExactPatchOfRow.holds Try.pinned (OpenSpec.ofChange fnExactPatchOfSpec)

/-- ITS FALSE NEIGHBOUR: 'it returns false'. Refute it at one input. -/
def fnExactPatchOfWrong : ChangeSpec := { name := "fnExactPatchOf", fn := fun _ => fun
  | [d1, d2] => { results := [.lit (.bool false)], args := [d1, d2] }
  | _ => none }
def FnExactPatchOfWrongFalsely : Prop := fnExactPatchOfRow.holds Try.pinned (OpenSpec.ofChange fnExactPatchOfWrong)

/-- 'laws.FnExactApplyPatch': WHATEVER THE INPUT: true; the input reads as it did. -/
def fnExactApplyPatchSpec : ChangeSpec := { name := "fnExactApplyPatch", fn := fun _ => fun
  | [d1, d2] => { results := [.lit (.bool true)], args := [d1, d2] }
  | _ => none }
def fnExactApplyPatchRow : OpenClaim := { program := "ytfghbecipdjcdaa", sum := "8f84958b15f3f35302f9fe014c373a2f89cdbd7eb631a2743ac7aa6c4eeee7eb", func := "loop.example/g00064/laws.FnExactApplyPatch", spec := "fnExactApplyPatch", apart := false }
def FnExactApplyPatchSaid : Prop := fnExactApplyPatchRow.holds Try.pinned (OpenSpec.ofChange fnExactApplyPatchSpec)

/-- ITS FALSE NEIGHBOUR: 'it returns false'. Refute it at one input. -/
def fnExactApplyPatchWrong : ChangeSpec := { name := "fnExactApplyPatch", fn := fun _ => fun
  | [d1, d2] => { results := [.lit (.bool false)], args := [d1, d2] }
  | _ => none }
def FnExactApplyPatchWrongFalsely : Prop := fnExactApplyPatchRow.holds Try.pinned (OpenSpec.ofChange fnExactApplyPatchWrong)

/- THE SECOND FORM. 'bulk': how many values and letters a reading holds, each counted each time it is reached (what is shared counts as often as it is met; a slice's spare places count too). A statement '..UptoSaid' is the law's where the arguments, and the package variables that the reading takes, are together of bulk at most 1048576: NARROWER than '..Said'. Prove '..Said' where nothing that the law and all that it calls make is longer than what came in: it says more and counts as full. Else prove '..UptoSaid'. A law counts once. -/
mutual
def uptoBulk {H : Type} : DataW H → Nat
  | .lit (.string bytes) => bytes.length + 1
  | .lit _ => 1
  | .nil => 1
  | .ptr d => uptoBulk d + 1
  | .slice elems spare => uptoBulkAll elems + uptoBulkAll spare + 1
  | .agg parts => uptoBulkAll parts + 1
  | .iface _ d => uptoBulk d + 1
  | .map entries => uptoBulkEntries entries + 1
  | .held _ => 1
def uptoBulkAll {H : Type} : List (DataW H) → Nat
  | [] => 0
  | d :: r => uptoBulk d + uptoBulkAll r
def uptoBulkEntries {H : Type} : List (Lit × DataW H) → Nat
  | [] => 0
  | x :: r => uptoBulkEntry x + uptoBulkEntries r
def uptoBulkEntry {H : Type} : Lit × DataW H → Nat
  | (.string bytes, d) => bytes.length + uptoBulk d + 1
  | (_, d) => uptoBulk d + 1
 end
def uptoSmall : (H : Type) → List (DataW H) → Bool := fun _ ds => decide (uptoBulkAll ds ≤ 1048576)
def OpenSpec.upto (s : _root_.Go.ChangeSpec) : _root_.Go.OpenSpec := { _root_.Go.OpenSpec.ofChange s with cond := some uptoSmall }

/-- 'laws.FnPairs', WHERE WHAT IT READS IS OF BULK AT MOST 1048576: true; the input reads as it did. -/
def fnPairsUptoRow : OpenClaim := { program := "ytfghbecipdjcdaa", sum := "8f84958b15f3f35302f9fe014c373a2f89cdbd7eb631a2743ac7aa6c4eeee7eb", func := "loop.example/g00064/laws.FnPairs", spec := "fnPairs", unfollowed := true, recurses := true, apart := false, narrowed := true }
def FnPairsUptoSaid : Prop := fnPairsUptoRow.holds Try.pinned (OpenSpec.upto fnPairsSpec)

/-- 'laws.FnExactGoodGame', WHERE WHAT IT READS IS OF BULK AT MOST 1048576: true; the input reads as it did. -/
def fnExactGoodGameUptoRow : OpenClaim := { program := "ytfghbecipdjcdaa", sum := "8f84958b15f3f35302f9fe014c373a2f89cdbd7eb631a2743ac7aa6c4eeee7eb", func := "loop.example/g00064/laws.FnExactGoodGame", spec := "fnExactGoodGame", unfollowed := true, recurses := true, apart := false, narrowed := true }
def FnExactGoodGameUptoSaid : Prop := fnExactGoodGameUptoRow.holds Try.pinned (OpenSpec.upto fnExactGoodGameSpec)

/-- 'laws.FnExactSheetSum', WHERE WHAT IT READS IS OF BULK AT MOST 1048576: true; the input reads as it did. -/
def fnExactSheetSumUptoRow : OpenClaim := { program := "ytfghbecipdjcdaa", sum := "8f84958b15f3f35302f9fe014c373a2f89cdbd7eb631a2743ac7aa6c4eeee7eb", func := "loop.example/g00064/laws.FnExactSheetSum", spec := "fnExactSheetSum", unfollowed := true, recurses := true, apart := false, narrowed := true }
def FnExactSheetSumUptoSaid : Prop := fnExactSheetSumUptoRow.holds Try.pinned (OpenSpec.upto fnExactSheetSumSpec)

/-- 'laws.FnExactGoodValues', WHERE WHAT IT READS IS OF BULK AT MOST 1048576: true; the input reads as it did. -/
def fnExactGoodValuesUptoRow : OpenClaim := { program := "ytfghbecipdjcdaa", sum := "8f84958b15f3f35302f9fe014c373a2f89cdbd7eb631a2743ac7aa6c4eeee7eb", func := "loop.example/g00064/laws.FnExactGoodValues", spec := "fnExactGoodValues", apart := false, narrowed := true }
def FnExactGoodValuesUptoSaid : Prop := fnExactGoodValuesUptoRow.holds Try.pinned (OpenSpec.upto fnExactGoodValuesSpec)

/-- 'laws.FnExactGoodChanges', WHERE WHAT IT READS IS OF BULK AT MOST 1048576: true; the input reads as it did. -/
def fnExactGoodChangesUptoRow : OpenClaim := { program := "ytfghbecipdjcdaa", sum := "8f84958b15f3f35302f9fe014c373a2f89cdbd7eb631a2743ac7aa6c4eeee7eb", func := "loop.example/g00064/laws.FnExactGoodChanges", spec := "fnExactGoodChanges", apart := false, narrowed := true }
def FnExactGoodChangesUptoSaid : Prop := fnExactGoodChangesUptoRow.holds Try.pinned (OpenSpec.upto fnExactGoodChangesSpec)

/-- 'laws.FnPatched', WHERE WHAT IT READS IS OF BULK AT MOST 1048576: true; the input reads as it did. -/
def fnPatchedUptoRow : OpenClaim := { program := "ytfghbecipdjcdaa", sum := "8f84958b15f3f35302f9fe014c373a2f89cdbd7eb631a2743ac7aa6c4eeee7eb", func := "loop.example/g00064/laws.FnPatched", spec := "fnPatched", apart := false, narrowed := true }
def FnPatchedUptoSaid : Prop := fnPatchedUptoRow.holds Try.pinned (OpenSpec.upto fnPatchedSpec)

/-- 'laws.FnExactGameSum', WHERE WHAT IT READS IS OF BULK AT MOST 1048576: true; the input reads as it did. -/
def fnExactGameSumUptoRow : OpenClaim := { program := "ytfghbecipdjcdaa", sum := "8f84958b15f3f35302f9fe014c373a2f89cdbd7eb631a2743ac7aa6c4eeee7eb", func := "loop.example/g00064/laws.FnExactGameSum", spec := "fnExactGameSum", unfollowed := true, recurses := true, apart := false, narrowed := true }
def FnExactGameSumUptoSaid : Prop := fnExactGameSumUptoRow.holds Try.pinned (OpenSpec.upto fnExactGameSumSpec)

/-- 'laws.FnExactPutBits', WHERE WHAT IT READS IS OF BULK AT MOST 1048576: true; the input reads as it did. -/
def fnExactPutBitsUptoRow : OpenClaim := { program := "ytfghbecipdjcdaa", sum := "8f84958b15f3f35302f9fe014c373a2f89cdbd7eb631a2743ac7aa6c4eeee7eb", func := "loop.example/g00064/laws.FnExactPutBits", spec := "fnExactPutBits", apart := false, narrowed := true }
def FnExactPutBitsUptoSaid : Prop := fnExactPutBitsUptoRow.holds Try.pinned (OpenSpec.upto fnExactPutBitsSpec)

/-- 'laws.FnExactPatchOf', WHERE WHAT IT READS IS OF BULK AT MOST 1048576: true; the input reads as it did. -/
def fnExactPatchOfUptoRow : OpenClaim := { program := "ytfghbecipdjcdaa", sum := "8f84958b15f3f35302f9fe014c373a2f89cdbd7eb631a2743ac7aa6c4eeee7eb", func := "loop.example/g00064/laws.FnExactPatchOf", spec := "fnExactPatchOf", apart := false, narrowed := true }
def FnExactPatchOfUptoSaid : Prop := fnExactPatchOfUptoRow.holds Try.pinned (OpenSpec.upto fnExactPatchOfSpec)

/-- 'laws.FnExactApplyPatch', WHERE WHAT IT READS IS OF BULK AT MOST 1048576: true; the input reads as it did. -/
def fnExactApplyPatchUptoRow : OpenClaim := { program := "ytfghbecipdjcdaa", sum := "8f84958b15f3f35302f9fe014c373a2f89cdbd7eb631a2743ac7aa6c4eeee7eb", func := "loop.example/g00064/laws.FnExactApplyPatch", spec := "fnExactApplyPatch", apart := false, narrowed := true }
def FnExactApplyPatchUptoSaid : Prop := fnExactApplyPatchUptoRow.holds Try.pinned (OpenSpec.upto fnExactApplyPatchSpec)

end Rows
end Go.Proofs.Ytfghbecipdjcdaa
