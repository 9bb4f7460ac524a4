/-
  No cell of these rows narrows 'for every input' (looked for: loops, veiled, ifaces, maps, wideKeys, modest, calm, conditions, laid).
  DERIVED. THE GIVEN ROWS OF THIS SEAT. 3 by the template 'for every input the law returns true; each argument reads behind the call as it read before'; 0 by the template 'total and deterministic' (their statements: YthgfobcckoedaaaTotals.lean).
  GIVEN WITH THE SEED: the statements are not yours to turn. If you find one false, say at which input.
  Laid BY PROGRAM, IN A SANDBOX (cutbox-rows.mjs): the forced cells as the released guide's own fill.sh prints them over the translation 328d9b75915ef36b… (all of the seat's roots in one cut). By AI agents, Wed Nov 11 2026. No macro, syntax, notation, axiom, sorry.
-/
import Derived.Test.YthgfobcckoedaaaChecked
import GoSem.Claim
import GoSem.ClaimJoined
import GoSem.ClaimMapViews
import Derived.JoinedTies
import Derived.KernelRfl
namespace Go.Proofs.Ythgfobcckoedaaa
/- THE CELL 'sum', in the pinned program and in every row, IS THE sha256 OF THE DUMP (.gsa) THAT YthgfobcckoedaaaProg.lean LOADS. Nothing in Lean hashes anything: it is a label: what it is worth is what the hold of that sum in a sandbox is worth. -/
noncomputable def Try.pinned : Pinned := { name := "ythgfobcckoedaaa", sum := "328d9b75915ef36b754986ca0d1737be2d6f10b06a848a032f6ec588f8b1fbe6", checked := Try.checked }
namespace Rows
def none {H : Type} : Left H := { results := [], args := [] }

/-- 'laws.FnExactSparksAt': WHATEVER THE INPUT: true; the input reads as it did. -/
def fnExactSparksAtSpec : ChangeSpec := { name := "fnExactSparksAt", fn := fun _ => fun
  | [d1, d2, d3] => { results := [.lit (.bool true)], args := [d1, d2, d3] }
  | _ => none }
def fnExactSparksAtRow : OpenClaim := { program := "ythgfobcckoedaaa", sum := "328d9b75915ef36b754986ca0d1737be2d6f10b06a848a032f6ec588f8b1fbe6", func := "loop.example/g00064/laws.FnExactSparksAt", spec := "fnExactSparksAt", inPlace := ["math/bits.Add64"], unfollowed := true, recurses := true, apart := false }
def FnExactSparksAtSaid : Prop := fnExactSparksAtRow.holds Try.pinned (OpenSpec.ofChange fnExactSparksAtSpec)

/-- ITS FALSE NEIGHBOUR: 'it returns false'. Refute it at one input. -/
def fnExactSparksAtWrong : ChangeSpec := { name := "fnExactSparksAt", fn := fun _ => fun
  | [d1, d2, d3] => { results := [.lit (.bool false)], args := [d1, d2, d3] }
  | _ => none }
def FnExactSparksAtWrongFalsely : Prop := fnExactSparksAtRow.holds Try.pinned (OpenSpec.ofChange fnExactSparksAtWrong)

/-- 'laws.FnExactStepCloud': WHATEVER THE INPUT: true; the input reads as it did. -/
def fnExactStepCloudSpec : ChangeSpec := { name := "fnExactStepCloud", fn := fun _ => fun
  | [d1, d2] => { results := [.lit (.bool true)], args := [d1, d2] }
  | _ => none }
def fnExactStepCloudRow : OpenClaim := { program := "ythgfobcckoedaaa", sum := "328d9b75915ef36b754986ca0d1737be2d6f10b06a848a032f6ec588f8b1fbe6", func := "loop.example/g00064/laws.FnExactStepCloud", spec := "fnExactStepCloud", inPlace := ["math/bits.Add64"], unfollowed := true, recurses := true, apart := false }
def FnExactStepCloudSaid : Prop := fnExactStepCloudRow.holds Try.pinned (OpenSpec.ofChange fnExactStepCloudSpec)

/-- ITS FALSE NEIGHBOUR: 'it returns false'. Refute it at one input. -/
def fnExactStepCloudWrong : ChangeSpec := { name := "fnExactStepCloud", fn := fun _ => fun
  | [d1, d2] => { results := [.lit (.bool false)], args := [d1, d2] }
  | _ => none }
def FnExactStepCloudWrongFalsely : Prop := fnExactStepCloudRow.holds Try.pinned (OpenSpec.ofChange fnExactStepCloudWrong)

/-- 'laws.FnExactRunCloud': WHATEVER THE INPUT: true; the input reads as it did. -/
def fnExactRunCloudSpec : ChangeSpec := { name := "fnExactRunCloud", fn := fun _ => fun
  | [d1, d2, d3] => { results := [.lit (.bool true)], args := [d1, d2, d3] }
  | _ => none }
def fnExactRunCloudRow : OpenClaim := { program := "ythgfobcckoedaaa", sum := "328d9b75915ef36b754986ca0d1737be2d6f10b06a848a032f6ec588f8b1fbe6", func := "loop.example/g00064/laws.FnExactRunCloud", spec := "fnExactRunCloud", inPlace := ["math/bits.Add64"], unfollowed := true, recurses := true, apart := false }
def FnExactRunCloudSaid : Prop := fnExactRunCloudRow.holds Try.pinned (OpenSpec.ofChange fnExactRunCloudSpec)

/-- ITS FALSE NEIGHBOUR: 'it returns false'. Refute it at one input. -/
def fnExactRunCloudWrong : ChangeSpec := { name := "fnExactRunCloud", fn := fun _ => fun
  | [d1, d2, d3] => { results := [.lit (.bool false)], args := [d1, d2, d3] }
  | _ => none }
def FnExactRunCloudWrongFalsely : Prop := fnExactRunCloudRow.holds Try.pinned (OpenSpec.ofChange fnExactRunCloudWrong)

/- THE SECOND FORM. 'bulk': how many values and letters a reading holds, each counted each time it is reached (what is shared counts as often as it is met; a slice's spare places count too). A statement '..UptoSaid' is the law's where the arguments, and the package variables that the reading takes, are together of bulk at most 1048576: NARROWER than '..Said'. Prove '..Said' where nothing that the law and all that it calls make is longer than what came in: it says more and counts as full. Else prove '..UptoSaid'. A law counts once. -/
mutual
def uptoBulk {H : Type} : DataW H → Nat
  | .lit (.string bytes) => bytes.length + 1
  | .lit _ => 1
  | .nil => 1
  | .ptr d => uptoBulk d + 1
  | .slice elems spare => uptoBulkAll elems + uptoBulkAll spare + 1
  | .agg parts => uptoBulkAll parts + 1
  | .iface _ d => uptoBulk d + 1
  | .map entries => uptoBulkEntries entries + 1
  | .held _ => 1
def uptoBulkAll {H : Type} : List (DataW H) → Nat
  | [] => 0
  | d :: r => uptoBulk d + uptoBulkAll r
def uptoBulkEntries {H : Type} : List (Lit × DataW H) → Nat
  | [] => 0
  | x :: r => uptoBulkEntry x + uptoBulkEntries r
def uptoBulkEntry {H : Type} : Lit × DataW H → Nat
  | (.string bytes, d) => bytes.length + uptoBulk d + 1
  | (_, d) => uptoBulk d + 1
 end
def uptoSmall : (H : Type) → List (DataW H) → Bool := fun _ ds => decide (uptoBulkAll ds ≤ 1048576)
def OpenSpec.upto (s : _root_.Go.ChangeSpec) : _root_.Go.OpenSpec := { _root_.Go.OpenSpec.ofChange s with cond := some uptoSmall }

/-- 'laws.FnExactSparksAt', WHERE WHAT IT READS IS OF BULK AT MOST 1048576: true; the input reads as it did. -/
def fnExactSparksAtUptoRow : OpenClaim := { program := "ythgfobcckoedaaa", sum := "328d9b75915ef36b754986ca0d1737be2d6f10b06a848a032f6ec588f8b1fbe6", func := "loop.example/g00064/laws.FnExactSparksAt", spec := "fnExactSparksAt", inPlace := ["math/bits.Add64"], unfollowed := true, recurses := true, apart := false, narrowed := true }
def FnExactSparksAtUptoSaid : Prop := fnExactSparksAtUptoRow.holds Try.pinned (OpenSpec.upto fnExactSparksAtSpec)

/-- 'laws.FnExactStepCloud', WHERE WHAT IT READS IS OF BULK AT MOST 1048576: true; the input reads as it did. -/
def fnExactStepCloudUptoRow : OpenClaim := { program := "ythgfobcckoedaaa", sum := "328d9b75915ef36b754986ca0d1737be2d6f10b06a848a032f6ec588f8b1fbe6", func := "loop.example/g00064/laws.FnExactStepCloud", spec := "fnExactStepCloud", inPlace := ["math/bits.Add64"], unfollowed := true, recurses := true, apart := false, narrowed := true }
def FnExactStepCloudUptoSaid : Prop := fnExactStepCloudUptoRow.holds Try.pinned (OpenSpec.upto fnExactStepCloudSpec)

/-- 'laws.FnExactRunCloud', WHERE WHAT IT READS IS OF BULK AT MOST 1048576: true; the input reads as it did. -/
def fnExactRunCloudUptoRow : OpenClaim := { program := "ythgfobcckoedaaa", sum := "328d9b75915ef36b754986ca0d1737be2d6f10b06a848a032f6ec588f8b1fbe6", func := "loop.example/g00064/laws.FnExactRunCloud", spec := "fnExactRunCloud", inPlace := ["math/bits.Add64"], unfollowed := true, recurses := true, apart := false, narrowed := true }
def FnExactRunCloudUptoSaid : Prop := fnExactRunCloudUptoRow.holds Try.pinned (OpenSpec.upto fnExactRunCloudSpec)

end Rows
end Go.Proofs.Ythgfobcckoedaaa
