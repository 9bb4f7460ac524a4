/-
  No cell of these rows narrows 'for every input' (looked for: loops, veiled, ifaces, maps, wideKeys, modest, calm, conditions, laid).
  DERIVED. THE GIVEN ROWS OF THIS SEAT. 3 by the template 'for every input the law returns true; each argument reads behind the call as it read before'; 0 by the template 'total and deterministic' (their statements: YtcpodjegdpbalaaTotals.lean).
  GIVEN WITH THE SEED: the statements are not yours to turn. If you find one false, say at which input.
  Laid BY PROGRAM, IN A SANDBOX (cutbox-rows.mjs): the forced cells as the released guide's own fill.sh prints them over the translation ad61e27906e6596c… (all of the seat's roots in one cut). By AI agents, Wed Nov 11 2026. No macro, syntax, notation, axiom, sorry.
-/
import Derived.Test.YtcpodjegdpbalaaChecked
import GoSem.Claim
import GoSem.ClaimJoined
import GoSem.ClaimMapViews
import Derived.JoinedTies
import Derived.KernelRfl
namespace Go.Proofs.Ytcpodjegdpbalaa
/- THE CELL 'sum', in the pinned program and in every row, IS THE sha256 OF THE DUMP (.gsa) THAT YtcpodjegdpbalaaProg.lean LOADS. Nothing in Lean hashes anything: it is a label: what it is worth is what the hold of that sum in a sandbox is worth. -/
noncomputable def Try.pinned : Pinned := { name := "ytcpodjegdpbalaa", sum := "ad61e27906e6596c9448dbf3c9d7326e33410a2cb94b90f53f1884858bdc122d", checked := Try.checked }
namespace Rows
def none {H : Type} : Left H := { results := [], args := [] }

/-- 'laws.FnExactPatchOf': WHATEVER THE INPUT: true; the input reads as it did. -/
def fnExactPatchOfSpec : ChangeSpec := { name := "fnExactPatchOf", fn := fun _ => fun
  | [d1, d2] => { results := [.lit (.bool true)], args := [d1, d2] }
  | _ => none }
def fnExactPatchOfRow : OpenClaim := { program := "ytcpodjegdpbalaa", sum := "ad61e27906e6596c9448dbf3c9d7326e33410a2cb94b90f53f1884858bdc122d", func := "loop.example/g00064/laws.FnExactPatchOf", spec := "fnExactPatchOf", apart := false }
def FnExactPatchOfSaid : Prop := fnExactPatchOfRow.holds Try.pinned (OpenSpec.ofChange fnExactPatchOfSpec)

/-- ITS FALSE NEIGHBOUR: 'it returns false'. Refute it at one input. -/
def fnExactPatchOfWrong : ChangeSpec := { name := "fnExactPatchOf", fn := fun _ => fun
  | [d1, d2] => { results := [.lit (.bool false)], args := [d1, d2] }
  | _ => none }
def FnExactPatchOfWrongFalsely : Prop := fnExactPatchOfRow.holds Try.pinned (OpenSpec.ofChange fnExactPatchOfWrong)

/-- 'laws.FnExactApplyPatch': WHATEVER THE INPUT: true; the input reads as it did. -/
def fnExactApplyPatchSpec : ChangeSpec := { name := "fnExactApplyPatch", fn := fun _ => fun
  | [d1, d2] => { results := [.lit (.bool true)], args := [d1, d2] }
  | _ => none }
def fnExactApplyPatchRow : OpenClaim := { program := "ytcpodjegdpbalaa", sum := "ad61e27906e6596c9448dbf3c9d7326e33410a2cb94b90f53f1884858bdc122d", func := "loop.example/g00064/laws.FnExactApplyPatch", spec := "fnExactApplyPatch", apart := false }
def FnExactApplyPatchSaid : Prop := fnExactApplyPatchRow.holds Try.pinned (OpenSpec.ofChange fnExactApplyPatchSpec)

/-- ITS FALSE NEIGHBOUR: 'it returns false'. Refute it at one input. -/
def fnExactApplyPatchWrong : ChangeSpec := { name := "fnExactApplyPatch", fn := fun _ => fun
  | [d1, d2] => { results := [.lit (.bool false)], args := [d1, d2] }
  | _ => none }
def FnExactApplyPatchWrongFalsely : Prop := fnExactApplyPatchRow.holds Try.pinned (OpenSpec.ofChange fnExactApplyPatchWrong)

/-- 'laws.FnExactQueryWorld': WHATEVER THE INPUT: true; the input reads as it did. -/
def fnExactQueryWorldSpec : ChangeSpec := { name := "fnExactQueryWorld", fn := fun _ => fun
  | [d1, d2] => { results := [.lit (.bool true)], args := [d1, d2] }
  | _ => none }
def fnExactQueryWorldRow : OpenClaim := { program := "ytcpodjegdpbalaa", sum := "ad61e27906e6596c9448dbf3c9d7326e33410a2cb94b90f53f1884858bdc122d", func := "loop.example/g00064/laws.FnExactQueryWorld", spec := "fnExactQueryWorld", inPlace := ["internal/bytealg.abigen_runtime_cmpstring"], unfollowed := true, recurses := true, apart := false }
def FnExactQueryWorldSaid : Prop := fnExactQueryWorldRow.holds Try.pinned (OpenSpec.ofChange fnExactQueryWorldSpec)

/-- ITS FALSE NEIGHBOUR: 'it returns false'. Refute it at one input. -/
def fnExactQueryWorldWrong : ChangeSpec := { name := "fnExactQueryWorld", fn := fun _ => fun
  | [d1, d2] => { results := [.lit (.bool false)], args := [d1, d2] }
  | _ => none }
def FnExactQueryWorldWrongFalsely : Prop := fnExactQueryWorldRow.holds Try.pinned (OpenSpec.ofChange fnExactQueryWorldWrong)

/- THE SECOND FORM. 'bulk': how many values and letters a reading holds, each counted each time it is reached (what is shared counts as often as it is met; a slice's spare places count too). A statement '..UptoSaid' is the law's where the arguments, and the package variables that the reading takes, are together of bulk at most 1048576: NARROWER than '..Said'. Prove '..Said' where nothing that the law and all that it calls make is longer than what came in: it says more and counts as full. Else prove '..UptoSaid'. A law counts once. -/
mutual
def uptoBulk {H : Type} : DataW H → Nat
  | .lit (.string bytes) => bytes.length + 1
  | .lit _ => 1
  | .nil => 1
  | .ptr d => uptoBulk d + 1
  | .slice elems spare => uptoBulkAll elems + uptoBulkAll spare + 1
  | .agg parts => uptoBulkAll parts + 1
  | .iface _ d => uptoBulk d + 1
  | .map entries => uptoBulkEntries entries + 1
  | .held _ => 1
def uptoBulkAll {H : Type} : List (DataW H) → Nat
  | [] => 0
  | d :: r => uptoBulk d + uptoBulkAll r
def uptoBulkEntries {H : Type} : List (Lit × DataW H) → Nat
  | [] => 0
  | x :: r => uptoBulkEntry x + uptoBulkEntries r
def uptoBulkEntry {H : Type} : Lit × DataW H → Nat
  | (.string bytes, d) => bytes.length + uptoBulk d + 1
  | (_, d) => uptoBulk d + 1
 end
def uptoSmall : (H : Type) → List (DataW H) → Bool := fun _ ds => decide (uptoBulkAll ds ≤ 1048576)
def OpenSpec.upto (s : _root_.Go.ChangeSpec) : _root_.Go.OpenSpec := { _root_.Go.OpenSpec.ofChange s with cond := some uptoSmall }

/-- 'laws.FnExactPatchOf', WHERE WHAT IT READS IS OF BULK AT MOST 1048576: true; the input reads as it did. -/
def fnExactPatchOfUptoRow : OpenClaim := { program := "ytcpodjegdpbalaa", sum := "ad61e27906e6596c9448dbf3c9d7326e33410a2cb94b90f53f1884858bdc122d", func := "loop.example/g00064/laws.FnExactPatchOf", spec := "fnExactPatchOf", apart := false, narrowed := true }
def FnExactPatchOfUptoSaid : Prop := fnExactPatchOfUptoRow.holds Try.pinned (OpenSpec.upto fnExactPatchOfSpec)

/-- 'laws.FnExactApplyPatch', WHERE WHAT IT READS IS OF BULK AT MOST 1048576: true; the input reads as it did. -/
def fnExactApplyPatchUptoRow : OpenClaim := { program := "ytcpodjegdpbalaa", sum := "ad61e27906e6596c9448dbf3c9d7326e33410a2cb94b90f53f1884858bdc122d", func := "loop.example/g00064/laws.FnExactApplyPatch", spec := "fnExactApplyPatch", apart := false, narrowed := true }
def FnExactApplyPatchUptoSaid : Prop := fnExactApplyPatchUptoRow.holds Try.pinned (OpenSpec.upto fnExactApplyPatchSpec)

/-- 'laws.FnExactQueryWorld', WHERE WHAT IT READS IS OF BULK AT MOST 1048576: true; the input reads as it did. -/
def fnExactQueryWorldUptoRow : OpenClaim := { program := "ytcpodjegdpbalaa", sum := "ad61e27906e6596c9448dbf3c9d7326e33410a2cb94b90f53f1884858bdc122d", func := "loop.example/g00064/laws.FnExactQueryWorld", spec := "fnExactQueryWorld", inPlace := ["internal/bytealg.abigen_runtime_cmpstring"], unfollowed := true, recurses := true, apart := false, narrowed := true }
def FnExactQueryWorldUptoSaid : Prop := fnExactQueryWorldUptoRow.holds Try.pinned (OpenSpec.upto fnExactQueryWorldSpec)

end Rows
end Go.Proofs.Ytcpodjegdpbalaa
