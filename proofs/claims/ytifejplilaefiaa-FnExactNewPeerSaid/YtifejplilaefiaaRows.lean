/-
  No cell of these rows narrows 'for every input' (looked for: loops, veiled, ifaces, maps, wideKeys, modest, calm, conditions, laid).
  DERIVED. THE GIVEN ROWS OF THIS SEAT. 4 by the template 'for every input the law returns true; each argument reads behind the call as it read before'; 0 by the template 'total and deterministic' (their statements: YtifejplilaefiaaTotals.lean).
  GIVEN WITH THE SEED: the statements are not yours to turn. If you find one false, say at which input.
  Laid BY PROGRAM, IN A SANDBOX (cutbox-rows.mjs): the forced cells as the released guide's own fill.sh prints them over the translation 369ea22cd8c52600… (all of the seat's roots in one cut). By AI agents, Wed Nov 11 2026. No macro, syntax, notation, axiom, sorry.
-/
import Derived.Test.YtifejplilaefiaaChecked
import GoSem.Claim
import GoSem.ClaimJoined
import GoSem.ClaimMapViews
import Derived.JoinedTies
import Derived.KernelRfl
namespace Go.Proofs.Ytifejplilaefiaa
/- THE CELL 'sum', in the pinned program and in every row, IS THE sha256 OF THE DUMP (.gsa) THAT YtifejplilaefiaaProg.lean LOADS. Nothing in Lean hashes anything: it is a label: what it is worth is what the hold of that sum in a sandbox is worth. -/
noncomputable def Try.pinned : Pinned := { name := "ytifejplilaefiaa", sum := "369ea22cd8c52600a5ab623a55e699ae4eb8e9b6c2150475022d5c71805b07b1", checked := Try.checked }
namespace Rows
def none {H : Type} : Left H := { results := [], args := [] }

/-- 'laws.FnExactGoodAssets': WHATEVER THE INPUT: true; the input reads as it did. -/
def fnExactGoodAssetsSpec : ChangeSpec := { name := "fnExactGoodAssets", fn := fun _ => fun
  | [d] => { results := [.lit (.bool true)], args := [d] }
  | _ => none }
def fnExactGoodAssetsRow : OpenClaim := { program := "ytifejplilaefiaa", sum := "369ea22cd8c52600a5ab623a55e699ae4eb8e9b6c2150475022d5c71805b07b1", func := "loop.example/g00064/laws.FnExactGoodAssets", spec := "fnExactGoodAssets", unfollowed := true, recurses := true, apart := false }
def FnExactGoodAssetsSaid : Prop := fnExactGoodAssetsRow.holds Try.pinned (OpenSpec.ofChange fnExactGoodAssetsSpec)

/-- ITS FALSE NEIGHBOUR: 'it returns false'. Refute it at one input. -/
def fnExactGoodAssetsWrong : ChangeSpec := { name := "fnExactGoodAssets", fn := fun _ => fun
  | [d] => { results := [.lit (.bool false)], args := [d] }
  | _ => none }
def FnExactGoodAssetsWrongFalsely : Prop := fnExactGoodAssetsRow.holds Try.pinned (OpenSpec.ofChange fnExactGoodAssetsWrong)

/-- 'laws.FnExactMakeOrder': WHATEVER THE INPUT: true; the input reads as it did. -/
def fnExactMakeOrderSpec : ChangeSpec := { name := "fnExactMakeOrder", fn := fun _ => fun
  | [d] => { results := [.lit (.bool true)], args := [d] }
  | _ => none }
def fnExactMakeOrderRow : OpenClaim := { program := "ytifejplilaefiaa", sum := "369ea22cd8c52600a5ab623a55e699ae4eb8e9b6c2150475022d5c71805b07b1", func := "loop.example/g00064/laws.FnExactMakeOrder", spec := "fnExactMakeOrder", unfollowed := true, recurses := true, apart := false }
def FnExactMakeOrderSaid : Prop := fnExactMakeOrderRow.holds Try.pinned (OpenSpec.ofChange fnExactMakeOrderSpec)

/-- ITS FALSE NEIGHBOUR: 'it returns false'. Refute it at one input. -/
def fnExactMakeOrderWrong : ChangeSpec := { name := "fnExactMakeOrder", fn := fun _ => fun
  | [d] => { results := [.lit (.bool false)], args := [d] }
  | _ => none }
def FnExactMakeOrderWrongFalsely : Prop := fnExactMakeOrderRow.holds Try.pinned (OpenSpec.ofChange fnExactMakeOrderWrong)

/-- 'laws.FnExactGoodStore': WHATEVER THE INPUT: true; the input reads as it did. -/
def fnExactGoodStoreSpec : ChangeSpec := { name := "fnExactGoodStore", fn := fun _ => fun
  | [d] => { results := [.lit (.bool true)], args := [d] }
  | _ => none }
def fnExactGoodStoreRow : OpenClaim := { program := "ytifejplilaefiaa", sum := "369ea22cd8c52600a5ab623a55e699ae4eb8e9b6c2150475022d5c71805b07b1", func := "loop.example/g00064/laws.FnExactGoodStore", spec := "fnExactGoodStore", unfollowed := true, recurses := true, apart := false }
def FnExactGoodStoreSaid : Prop := fnExactGoodStoreRow.holds Try.pinned (OpenSpec.ofChange fnExactGoodStoreSpec)

/-- ITS FALSE NEIGHBOUR: 'it returns false'. Refute it at one input. -/
def fnExactGoodStoreWrong : ChangeSpec := { name := "fnExactGoodStore", fn := fun _ => fun
  | [d] => { results := [.lit (.bool false)], args := [d] }
  | _ => none }
def FnExactGoodStoreWrongFalsely : Prop := fnExactGoodStoreRow.holds Try.pinned (OpenSpec.ofChange fnExactGoodStoreWrong)

/-- 'laws.FnExactNewPeer': WHATEVER THE INPUT: true; the input reads as it did. -/
def fnExactNewPeerSpec : ChangeSpec := { name := "fnExactNewPeer", fn := fun _ => fun
  | [d1, d2] => { results := [.lit (.bool true)], args := [d1, d2] }
  | _ => none }
def fnExactNewPeerRow : OpenClaim := { program := "ytifejplilaefiaa", sum := "369ea22cd8c52600a5ab623a55e699ae4eb8e9b6c2150475022d5c71805b07b1", func := "loop.example/g00064/laws.FnExactNewPeer", spec := "fnExactNewPeer", apart := false }
def FnExactNewPeerSaid : Prop := fnExactNewPeerRow.holds Try.pinned (OpenSpec.ofChange fnExactNewPeerSpec)

/-- ITS FALSE NEIGHBOUR: 'it returns false'. Refute it at one input. -/
def fnExactNewPeerWrong : ChangeSpec := { name := "fnExactNewPeer", fn := fun _ => fun
  | [d1, d2] => { results := [.lit (.bool false)], args := [d1, d2] }
  | _ => none }
def FnExactNewPeerWrongFalsely : Prop := fnExactNewPeerRow.holds Try.pinned (OpenSpec.ofChange fnExactNewPeerWrong)

/- THE SECOND FORM. 'bulk': how many values and letters a reading holds, each counted each time it is reached (what is shared counts as often as it is met; a slice's spare places count too). A statement '..UptoSaid' is the law's where the arguments, and the package variables that the reading takes, are together of bulk at most 1048576: NARROWER than '..Said'. Prove '..Said' where nothing that the law and all that it calls make is longer than what came in: it says more and counts as full. Else prove '..UptoSaid'. A law counts once. -/
mutual
def uptoBulk {H : Type} : DataW H → Nat
  | .lit (.string bytes) => bytes.length + 1
  | .lit _ => 1
  | .nil => 1
  | .ptr d => uptoBulk d + 1
  | .slice elems spare => uptoBulkAll elems + uptoBulkAll spare + 1
  | .agg parts => uptoBulkAll parts + 1
  | .iface _ d => uptoBulk d + 1
  | .map entries => uptoBulkEntries entries + 1
  | .held _ => 1
def uptoBulkAll {H : Type} : List (DataW H) → Nat
  | [] => 0
  | d :: r => uptoBulk d + uptoBulkAll r
def uptoBulkEntries {H : Type} : List (Lit × DataW H) → Nat
  | [] => 0
  | x :: r => uptoBulkEntry x + uptoBulkEntries r
def uptoBulkEntry {H : Type} : Lit × DataW H → Nat
  | (.string bytes, d) => bytes.length + uptoBulk d + 1
  | (_, d) => uptoBulk d + 1
 end
def uptoSmall : (H : Type) → List (DataW H) → Bool := fun _ ds => decide (uptoBulkAll ds ≤ 1048576)
def OpenSpec.upto (s : _root_.Go.ChangeSpec) : _root_.Go.OpenSpec := { _root_.Go.OpenSpec.ofChange s with cond := some uptoSmall }

/-- 'laws.FnExactGoodAssets', WHERE WHAT IT READS IS OF BULK AT MOST 1048576: true; the input reads as it did. -/
def fnExactGoodAssetsUptoRow : OpenClaim := { program := "ytifejplilaefiaa", sum := "369ea22cd8c52600a5ab623a55e699ae4eb8e9b6c2150475022d5c71805b07b1", func := "loop.example/g00064/laws.FnExactGoodAssets", spec := "fnExactGoodAssets", unfollowed := true, recurses := true, apart := false, narrowed := true }
def FnExactGoodAssetsUptoSaid : Prop := fnExactGoodAssetsUptoRow.holds Try.pinned (OpenSpec.upto fnExactGoodAssetsSpec)

/-- 'laws.FnExactMakeOrder', WHERE WHAT IT READS IS OF BULK AT MOST 1048576: true; the input reads as it did. -/
def fnExactMakeOrderUptoRow : OpenClaim := { program := "ytifejplilaefiaa", sum := "369ea22cd8c52600a5ab623a55e699ae4eb8e9b6c2150475022d5c71805b07b1", func := "loop.example/g00064/laws.FnExactMakeOrder", spec := "fnExactMakeOrder", unfollowed := true, recurses := true, apart := false, narrowed := true }
def FnExactMakeOrderUptoSaid : Prop := fnExactMakeOrderUptoRow.holds Try.pinned (OpenSpec.upto fnExactMakeOrderSpec)

/-- 'laws.FnExactGoodStore', WHERE WHAT IT READS IS OF BULK AT MOST 1048576: true; the input reads as it did. -/
def fnExactGoodStoreUptoRow : OpenClaim := { program := "ytifejplilaefiaa", sum := "369ea22cd8c52600a5ab623a55e699ae4eb8e9b6c2150475022d5c71805b07b1", func := "loop.example/g00064/laws.FnExactGoodStore", spec := "fnExactGoodStore", unfollowed := true, recurses := true, apart := false, narrowed := true }
def FnExactGoodStoreUptoSaid : Prop := fnExactGoodStoreUptoRow.holds Try.pinned (OpenSpec.upto fnExactGoodStoreSpec)

/-- 'laws.FnExactNewPeer', WHERE WHAT IT READS IS OF BULK AT MOST 1048576: true; the input reads as it did. -/
def fnExactNewPeerUptoRow : OpenClaim := { program := "ytifejplilaefiaa", sum := "369ea22cd8c52600a5ab623a55e699ae4eb8e9b6c2150475022d5c71805b07b1", func := "loop.example/g00064/laws.FnExactNewPeer", spec := "fnExactNewPeer", apart := false, narrowed := true }
def FnExactNewPeerUptoSaid : Prop := fnExactNewPeerUptoRow.holds Try.pinned (OpenSpec.upto fnExactNewPeerSpec)

end Rows
end Go.Proofs.Ytifejplilaefiaa
