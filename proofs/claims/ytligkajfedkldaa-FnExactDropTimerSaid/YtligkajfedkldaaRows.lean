/-
  No cell of these rows narrows 'for every input' (looked for: loops, veiled, ifaces, maps, wideKeys, modest, calm, conditions, laid).
  DERIVED. THE GIVEN ROWS OF THIS SEAT. 11 by the template 'for every input the law returns true; each argument reads behind the call as it read before'; 0 by the template 'total and deterministic' (their statements: YtligkajfedkldaaTotals.lean).
  GIVEN WITH THE SEED: the statements are not yours to turn. If you find one false, say at which input.
  Laid BY PROGRAM, IN A SANDBOX (cutbox-rows.mjs): the forced cells as the released guide's own fill.sh prints them over the translation 3d6e530a498f4aa6… (all of the seat's roots in one cut). By AI agents, Wed Nov 11 2026. No macro, syntax, notation, axiom, sorry.
-/
import Derived.Test.YtligkajfedkldaaChecked
import GoSem.Claim
import GoSem.ClaimJoined
import GoSem.ClaimMapViews
import Derived.JoinedTies
import Derived.KernelRfl
namespace Go.Proofs.Ytligkajfedkldaa
/- THE CELL 'sum', in the pinned program and in every row, IS THE sha256 OF THE DUMP (.gsa) THAT YtligkajfedkldaaProg.lean LOADS. Nothing in Lean hashes anything: it is a label: what it is worth is what the hold of that sum in a sandbox is worth. -/
noncomputable def Try.pinned : Pinned := { name := "ytligkajfedkldaa", sum := "3d6e530a498f4aa60ea7b72d26a0eafab2c46781c8be28ef1fc97a4b284bd882", checked := Try.checked }
namespace Rows
def none {H : Type} : Left H := { results := [], args := [] }

/-- 'laws.FnExactGoodStore': WHATEVER THE INPUT: true; the input reads as it did. -/
def fnExactGoodStoreSpec : ChangeSpec := { name := "fnExactGoodStore", fn := fun _ => fun
  | [d] => { results := [.lit (.bool true)], args := [d] }
  | _ => none }
def fnExactGoodStoreRow : OpenClaim := { program := "ytligkajfedkldaa", sum := "3d6e530a498f4aa60ea7b72d26a0eafab2c46781c8be28ef1fc97a4b284bd882", func := "loop.example/g00064/laws.FnExactGoodStore", spec := "fnExactGoodStore", unfollowed := true, recurses := true, apart := false }
def FnExactGoodStoreSaid : Prop := fnExactGoodStoreRow.holds Try.pinned (OpenSpec.ofChange fnExactGoodStoreSpec)

/-- ITS FALSE NEIGHBOUR: 'it returns false'. Refute it at one input. -/
def fnExactGoodStoreWrong : ChangeSpec := { name := "fnExactGoodStore", fn := fun _ => fun
  | [d] => { results := [.lit (.bool false)], args := [d] }
  | _ => none }
def FnExactGoodStoreWrongFalsely : Prop := fnExactGoodStoreRow.holds Try.pinned (OpenSpec.ofChange fnExactGoodStoreWrong)

/-- 'laws.FnExactSeenAgo': WHATEVER THE INPUT: true; the input reads as it did. -/
def fnExactSeenAgoSpec : ChangeSpec := { name := "fnExactSeenAgo", fn := fun _ => fun
  | [d1, d2, d3] => { results := [.lit (.bool true)], args := [d1, d2, d3] }
  | _ => none }
def fnExactSeenAgoRow : OpenClaim := { program := "ytligkajfedkldaa", sum := "3d6e530a498f4aa60ea7b72d26a0eafab2c46781c8be28ef1fc97a4b284bd882", func := "loop.example/g00064/laws.FnExactSeenAgo", spec := "fnExactSeenAgo", unfollowed := true, recurses := true, apart := false }
def FnExactSeenAgoSaid : Prop := fnExactSeenAgoRow.holds Try.pinned (OpenSpec.ofChange fnExactSeenAgoSpec)

/-- ITS FALSE NEIGHBOUR: 'it returns false'. Refute it at one input. -/
def fnExactSeenAgoWrong : ChangeSpec := { name := "fnExactSeenAgo", fn := fun _ => fun
  | [d1, d2, d3] => { results := [.lit (.bool false)], args := [d1, d2, d3] }
  | _ => none }
def FnExactSeenAgoWrongFalsely : Prop := fnExactSeenAgoRow.holds Try.pinned (OpenSpec.ofChange fnExactSeenAgoWrong)

/-- 'laws.FnExactSeen': WHATEVER THE INPUT: true; the input reads as it did. -/
def fnExactSeenSpec : ChangeSpec := { name := "fnExactSeen", fn := fun _ => fun
  | [d1, d2] => { results := [.lit (.bool true)], args := [d1, d2] }
  | _ => none }
def fnExactSeenRow : OpenClaim := { program := "ytligkajfedkldaa", sum := "3d6e530a498f4aa60ea7b72d26a0eafab2c46781c8be28ef1fc97a4b284bd882", func := "loop.example/g00064/laws.FnExactSeen", spec := "fnExactSeen", unfollowed := true, recurses := true, apart := false }
def FnExactSeenSaid : Prop := fnExactSeenRow.holds Try.pinned (OpenSpec.ofChange fnExactSeenSpec)

/-- ITS FALSE NEIGHBOUR: 'it returns false'. Refute it at one input. -/
def fnExactSeenWrong : ChangeSpec := { name := "fnExactSeen", fn := fun _ => fun
  | [d1, d2] => { results := [.lit (.bool false)], args := [d1, d2] }
  | _ => none }
def FnExactSeenWrongFalsely : Prop := fnExactSeenRow.holds Try.pinned (OpenSpec.ofChange fnExactSeenWrong)

/-- 'laws.FnExactRunFilter': WHATEVER THE INPUT: true; the input reads as it did. -/
def fnExactRunFilterSpec : ChangeSpec := { name := "fnExactRunFilter", fn := fun _ => fun
  | [d1, d2, d3] => { results := [.lit (.bool true)], args := [d1, d2, d3] }
  | _ => none }
def fnExactRunFilterRow : OpenClaim := { program := "ytligkajfedkldaa", sum := "3d6e530a498f4aa60ea7b72d26a0eafab2c46781c8be28ef1fc97a4b284bd882", func := "loop.example/g00064/laws.FnExactRunFilter", spec := "fnExactRunFilter", inPlace := ["math.Float64bits", "math.Float64frombits"], unfollowed := true, recurses := true, apart := false }
def FnExactRunFilterSaid : Prop := fnExactRunFilterRow.holds Try.pinned (OpenSpec.ofChange fnExactRunFilterSpec)

/-- ITS FALSE NEIGHBOUR: 'it returns false'. Refute it at one input. -/
def fnExactRunFilterWrong : ChangeSpec := { name := "fnExactRunFilter", fn := fun _ => fun
  | [d1, d2, d3] => { results := [.lit (.bool false)], args := [d1, d2, d3] }
  | _ => none }
def FnExactRunFilterWrongFalsely : Prop := fnExactRunFilterRow.holds Try.pinned (OpenSpec.ofChange fnExactRunFilterWrong)

/-- 'laws.FnExactDropTimer': WHATEVER THE INPUT: true; the input reads as it did. -/
def fnExactDropTimerSpec : ChangeSpec := { name := "fnExactDropTimer", fn := fun _ => fun
  | [d1, d2] => { results := [.lit (.bool true)], args := [d1, d2] }
  | _ => none }
def fnExactDropTimerRow : OpenClaim := { program := "ytligkajfedkldaa", sum := "3d6e530a498f4aa60ea7b72d26a0eafab2c46781c8be28ef1fc97a4b284bd882", func := "loop.example/g00064/laws.FnExactDropTimer", spec := "fnExactDropTimer", unfollowed := true, recurses := true, apart := false }
def FnExactDropTimerSaid : Prop := fnExactDropTimerRow.holds Try.pinned (OpenSpec.ofChange fnExactDropTimerSpec)

/-- ITS FALSE NEIGHBOUR: 'it returns false'. Refute it at one input. -/
def fnExactDropTimerWrong : ChangeSpec := { name := "fnExactDropTimer", fn := fun _ => fun
  | [d1, d2] => { results := [.lit (.bool false)], args := [d1, d2] }
  | _ => none }
def FnExactDropTimerWrongFalsely : Prop := fnExactDropTimerRow.holds Try.pinned (OpenSpec.ofChange fnExactDropTimerWrong)

/-- 'laws.FnExactWriteSave': WHATEVER THE INPUT: true; the input reads as it did. -/
def fnExactWriteSaveSpec : ChangeSpec := { name := "fnExactWriteSave", fn := fun _ => fun
  | [d1, d2] => { results := [.lit (.bool true)], args := [d1, d2] }
  | _ => none }
def fnExactWriteSaveRow : OpenClaim := { program := "ytligkajfedkldaa", sum := "3d6e530a498f4aa60ea7b72d26a0eafab2c46781c8be28ef1fc97a4b284bd882", func := "loop.example/g00064/laws.FnExactWriteSave", spec := "fnExactWriteSave", apart := false }
def FnExactWriteSaveSaid : Prop := fnExactWriteSaveRow.holds Try.pinned (OpenSpec.ofChange fnExactWriteSaveSpec)

/-- ITS FALSE NEIGHBOUR: 'it returns false'. Refute it at one input. -/
def fnExactWriteSaveWrong : ChangeSpec := { name := "fnExactWriteSave", fn := fun _ => fun
  | [d1, d2] => { results := [.lit (.bool false)], args := [d1, d2] }
  | _ => none }
def FnExactWriteSaveWrongFalsely : Prop := fnExactWriteSaveRow.holds Try.pinned (OpenSpec.ofChange fnExactWriteSaveWrong)

/-- 'laws.FnPieces': WHATEVER THE INPUT: true; the input reads as it did. -/
def fnPiecesSpec : ChangeSpec := { name := "fnPieces", fn := fun _ => fun
  | [d] => { results := [.lit (.bool true)], args := [d] }
  | _ => none }
def fnPiecesRow : OpenClaim := { program := "ytligkajfedkldaa", sum := "3d6e530a498f4aa60ea7b72d26a0eafab2c46781c8be28ef1fc97a4b284bd882", func := "loop.example/g00064/laws.FnPieces", spec := "fnPieces", apart := false }
def FnPiecesSaid : Prop := fnPiecesRow.holds Try.pinned (OpenSpec.ofChange fnPiecesSpec)

/-- ITS FALSE NEIGHBOUR: 'it returns false'. Refute it at one input. -/
def fnPiecesWrong : ChangeSpec := { name := "fnPieces", fn := fun _ => fun
  | [d] => { results := [.lit (.bool false)], args := [d] }
  | _ => none }
def FnPiecesWrongFalsely : Prop := fnPiecesRow.holds Try.pinned (OpenSpec.ofChange fnPiecesWrong)

/-- 'laws.FnKeys': WHATEVER THE INPUT: true; the input reads as it did. -/
def fnKeysSpec : ChangeSpec := { name := "fnKeys", fn := fun _ => fun
  | [d] => { results := [.lit (.bool true)], args := [d] }
  | _ => none }
def fnKeysRow : OpenClaim := { program := "ytligkajfedkldaa", sum := "3d6e530a498f4aa60ea7b72d26a0eafab2c46781c8be28ef1fc97a4b284bd882", func := "loop.example/g00064/laws.FnKeys", spec := "fnKeys", unfollowed := true, recurses := true, apart := false }
def FnKeysSaid : Prop := fnKeysRow.holds Try.pinned (OpenSpec.ofChange fnKeysSpec)

/-- ITS FALSE NEIGHBOUR: 'it returns false'. Refute it at one input. -/
def fnKeysWrong : ChangeSpec := { name := "fnKeys", fn := fun _ => fun
  | [d] => { results := [.lit (.bool false)], args := [d] }
  | _ => none }
def FnKeysWrongFalsely : Prop := fnKeysRow.holds Try.pinned (OpenSpec.ofChange fnKeysWrong)

/-- 'laws.FnExactReadSave': WHATEVER THE INPUT: true; the input reads as it did. -/
def fnExactReadSaveSpec : ChangeSpec := { name := "fnExactReadSave", fn := fun _ => fun
  | [d] => { results := [.lit (.bool true)], args := [d] }
  | _ => none }
def fnExactReadSaveRow : OpenClaim := { program := "ytligkajfedkldaa", sum := "3d6e530a498f4aa60ea7b72d26a0eafab2c46781c8be28ef1fc97a4b284bd882", func := "loop.example/g00064/laws.FnExactReadSave", spec := "fnExactReadSave", apart := false }
def FnExactReadSaveSaid : Prop := fnExactReadSaveRow.holds Try.pinned (OpenSpec.ofChange fnExactReadSaveSpec)

/-- ITS FALSE NEIGHBOUR: 'it returns false'. Refute it at one input. -/
def fnExactReadSaveWrong : ChangeSpec := { name := "fnExactReadSave", fn := fun _ => fun
  | [d] => { results := [.lit (.bool false)], args := [d] }
  | _ => none }
def FnExactReadSaveWrongFalsely : Prop := fnExactReadSaveRow.holds Try.pinned (OpenSpec.ofChange fnExactReadSaveWrong)

/-- 'laws.FnExactGoodAssets': WHATEVER THE INPUT: true; the input reads as it did. -/
def fnExactGoodAssetsSpec : ChangeSpec := { name := "fnExactGoodAssets", fn := fun _ => fun
  | [d] => { results := [.lit (.bool true)], args := [d] }
  | _ => none }
def fnExactGoodAssetsRow : OpenClaim := { program := "ytligkajfedkldaa", sum := "3d6e530a498f4aa60ea7b72d26a0eafab2c46781c8be28ef1fc97a4b284bd882", func := "loop.example/g00064/laws.FnExactGoodAssets", spec := "fnExactGoodAssets", unfollowed := true, recurses := true, apart := false }
def FnExactGoodAssetsSaid : Prop := fnExactGoodAssetsRow.holds Try.pinned (OpenSpec.ofChange fnExactGoodAssetsSpec)

/-- ITS FALSE NEIGHBOUR: 'it returns false'. Refute it at one input. -/
def fnExactGoodAssetsWrong : ChangeSpec := { name := "fnExactGoodAssets", fn := fun _ => fun
  | [d] => { results := [.lit (.bool false)], args := [d] }
  | _ => none }
def FnExactGoodAssetsWrongFalsely : Prop := fnExactGoodAssetsRow.holds Try.pinned (OpenSpec.ofChange fnExactGoodAssetsWrong)

/-- 'laws.FnWords': WHATEVER THE INPUT: true; the input reads as it did. -/
def fnWordsSpec : ChangeSpec := { name := "fnWords", fn := fun _ => fun
  | [d1, d2] => { results := [.lit (.bool true)], args := [d1, d2] }
  | _ => none }
def fnWordsRow : OpenClaim := { program := "ytligkajfedkldaa", sum := "3d6e530a498f4aa60ea7b72d26a0eafab2c46781c8be28ef1fc97a4b284bd882", func := "loop.example/g00064/laws.FnWords", spec := "fnWords", inPlace := ["internal/bytealg.IndexByteString"], apart := false }
def FnWordsSaid : Prop := fnWordsRow.holds Try.pinned (OpenSpec.ofChange fnWordsSpec)

/-- ITS FALSE NEIGHBOUR: 'it returns false'. Refute it at one input. -/
def fnWordsWrong : ChangeSpec := { name := "fnWords", fn := fun _ => fun
  | [d1, d2] => { results := [.lit (.bool false)], args := [d1, d2] }
  | _ => none }
def FnWordsWrongFalsely : Prop := fnWordsRow.holds Try.pinned (OpenSpec.ofChange fnWordsWrong)

/- THE SECOND FORM. 'bulk': how many values and letters a reading holds, each counted each time it is reached (what is shared counts as often as it is met; a slice's spare places count too). A statement '..UptoSaid' is the law's where the arguments, and the package variables that the reading takes, are together of bulk at most 1048576: NARROWER than '..Said'. Prove '..Said' where nothing that the law and all that it calls make is longer than what came in: it says more and counts as full. Else prove '..UptoSaid'. A law counts once. -/
mutual
def uptoBulk {H : Type} : DataW H → Nat
  | .lit (.string bytes) => bytes.length + 1
  | .lit _ => 1
  | .nil => 1
  | .ptr d => uptoBulk d + 1
  | .slice elems spare => uptoBulkAll elems + uptoBulkAll spare + 1
  | .agg parts => uptoBulkAll parts + 1
  | .iface _ d => uptoBulk d + 1
  | .map entries => uptoBulkEntries entries + 1
  | .held _ => 1
def uptoBulkAll {H : Type} : List (DataW H) → Nat
  | [] => 0
  | d :: r => uptoBulk d + uptoBulkAll r
def uptoBulkEntries {H : Type} : List (Lit × DataW H) → Nat
  | [] => 0
  | x :: r => uptoBulkEntry x + uptoBulkEntries r
def uptoBulkEntry {H : Type} : Lit × DataW H → Nat
  | (.string bytes, d) => bytes.length + uptoBulk d + 1
  | (_, d) => uptoBulk d + 1
 end
def uptoSmall : (H : Type) → List (DataW H) → Bool := fun _ ds => decide (uptoBulkAll ds ≤ 1048576)
def OpenSpec.upto (s : _root_.Go.ChangeSpec) : _root_.Go.OpenSpec := { _root_.Go.OpenSpec.ofChange s with cond := some uptoSmall }

/-- 'laws.FnExactGoodStore', WHERE WHAT IT READS IS OF BULK AT MOST 1048576: true; the input reads as it did. -/
def fnExactGoodStoreUptoRow : OpenClaim := { program := "ytligkajfedkldaa", sum := "3d6e530a498f4aa60ea7b72d26a0eafab2c46781c8be28ef1fc97a4b284bd882", func := "loop.example/g00064/laws.FnExactGoodStore", spec := "fnExactGoodStore", unfollowed := true, recurses := true, apart := false, narrowed := true }
def FnExactGoodStoreUptoSaid : Prop := fnExactGoodStoreUptoRow.holds Try.pinned (OpenSpec.upto fnExactGoodStoreSpec)

/-- 'laws.FnExactSeenAgo', WHERE WHAT IT READS IS OF BULK AT MOST 1048576: true; the input reads as it did. -/
def fnExactSeenAgoUptoRow : OpenClaim := { program := "ytligkajfedkldaa", sum := "3d6e530a498f4aa60ea7b72d26a0eafab2c46781c8be28ef1fc97a4b284bd882", func := "loop.example/g00064/laws.FnExactSeenAgo", spec := "fnExactSeenAgo", unfollowed := true, recurses := true, apart := false, narrowed := true }
def FnExactSeenAgoUptoSaid : Prop := fnExactSeenAgoUptoRow.holds Try.pinned (OpenSpec.upto fnExactSeenAgoSpec)

/-- 'laws.FnExactSeen', WHERE WHAT IT READS IS OF BULK AT MOST 1048576: true; the input reads as it did. -/
def fnExactSeenUptoRow : OpenClaim := { program := "ytligkajfedkldaa", sum := "3d6e530a498f4aa60ea7b72d26a0eafab2c46781c8be28ef1fc97a4b284bd882", func := "loop.example/g00064/laws.FnExactSeen", spec := "fnExactSeen", unfollowed := true, recurses := true, apart := false, narrowed := true }
def FnExactSeenUptoSaid : Prop := fnExactSeenUptoRow.holds Try.pinned (OpenSpec.upto fnExactSeenSpec)

/-- 'laws.FnExactRunFilter', WHERE WHAT IT READS IS OF BULK AT MOST 1048576: true; the input reads as it did. -/
def fnExactRunFilterUptoRow : OpenClaim := { program := "ytligkajfedkldaa", sum := "3d6e530a498f4aa60ea7b72d26a0eafab2c46781c8be28ef1fc97a4b284bd882", func := "loop.example/g00064/laws.FnExactRunFilter", spec := "fnExactRunFilter", inPlace := ["math.Float64bits", "math.Float64frombits"], unfollowed := true, recurses := true, apart := false, narrowed := true }
def FnExactRunFilterUptoSaid : Prop := fnExactRunFilterUptoRow.holds Try.pinned (OpenSpec.upto fnExactRunFilterSpec)

/-- 'laws.FnExactDropTimer', WHERE WHAT IT READS IS OF BULK AT MOST 1048576: true; the input reads as it did. -/
def fnExactDropTimerUptoRow : OpenClaim := { program := "ytligkajfedkldaa", sum := "3d6e530a498f4aa60ea7b72d26a0eafab2c46781c8be28ef1fc97a4b284bd882", func := "loop.example/g00064/laws.FnExactDropTimer", spec := "fnExactDropTimer", unfollowed := true, recurses := true, apart := false, narrowed := true }
def FnExactDropTimerUptoSaid : Prop := fnExactDropTimerUptoRow.holds Try.pinned (OpenSpec.upto fnExactDropTimerSpec)

/-- 'laws.FnExactWriteSave', WHERE WHAT IT READS IS OF BULK AT MOST 1048576: true; the input reads as it did. -/
def fnExactWriteSaveUptoRow : OpenClaim := { program := "ytligkajfedkldaa", sum := "3d6e530a498f4aa60ea7b72d26a0eafab2c46781c8be28ef1fc97a4b284bd882", func := "loop.example/g00064/laws.FnExactWriteSave", spec := "fnExactWriteSave", apart := false, narrowed := true }
def FnExactWriteSaveUptoSaid : Prop := fnExactWriteSaveUptoRow.holds Try.pinned (OpenSpec.upto fnExactWriteSaveSpec)

/-- 'laws.FnPieces', WHERE WHAT IT READS IS OF BULK AT MOST 1048576: true; the input reads as it did. -/
def fnPiecesUptoRow : OpenClaim := { program := "ytligkajfedkldaa", sum := "3d6e530a498f4aa60ea7b72d26a0eafab2c46781c8be28ef1fc97a4b284bd882", func := "loop.example/g00064/laws.FnPieces", spec := "fnPieces", apart := false, narrowed := true }
def FnPiecesUptoSaid : Prop := fnPiecesUptoRow.holds Try.pinned (OpenSpec.upto fnPiecesSpec)

/-- 'laws.FnKeys', WHERE WHAT IT READS IS OF BULK AT MOST 1048576: true; the input reads as it did. -/
def fnKeysUptoRow : OpenClaim := { program := "ytligkajfedkldaa", sum := "3d6e530a498f4aa60ea7b72d26a0eafab2c46781c8be28ef1fc97a4b284bd882", func := "loop.example/g00064/laws.FnKeys", spec := "fnKeys", unfollowed := true, recurses := true, apart := false, narrowed := true }
def FnKeysUptoSaid : Prop := fnKeysUptoRow.holds Try.pinned (OpenSpec.upto fnKeysSpec)

/-- 'laws.FnExactReadSave', WHERE WHAT IT READS IS OF BULK AT MOST 1048576: true; the input reads as it did. -/
def fnExactReadSaveUptoRow : OpenClaim := { program := "ytligkajfedkldaa", sum := "3d6e530a498f4aa60ea7b72d26a0eafab2c46781c8be28ef1fc97a4b284bd882", func := "loop.example/g00064/laws.FnExactReadSave", spec := "fnExactReadSave", apart := false, narrowed := true }
def FnExactReadSaveUptoSaid : Prop := fnExactReadSaveUptoRow.holds Try.pinned (OpenSpec.upto fnExactReadSaveSpec)

/-- 'laws.FnExactGoodAssets', WHERE WHAT IT READS IS OF BULK AT MOST 1048576: true; the input reads as it did. -/
def fnExactGoodAssetsUptoRow : OpenClaim := { program := "ytligkajfedkldaa", sum := "3d6e530a498f4aa60ea7b72d26a0eafab2c46781c8be28ef1fc97a4b284bd882", func := "loop.example/g00064/laws.FnExactGoodAssets", spec := "fnExactGoodAssets", unfollowed := true, recurses := true, apart := false, narrowed := true }
def FnExactGoodAssetsUptoSaid : Prop := fnExactGoodAssetsUptoRow.holds Try.pinned (OpenSpec.upto fnExactGoodAssetsSpec)

/-- 'laws.FnWords', WHERE WHAT IT READS IS OF BULK AT MOST 1048576: true; the input reads as it did. -/
def fnWordsUptoRow : OpenClaim := { program := "ytligkajfedkldaa", sum := "3d6e530a498f4aa60ea7b72d26a0eafab2c46781c8be28ef1fc97a4b284bd882", func := "loop.example/g00064/laws.FnWords", spec := "fnWords", inPlace := ["internal/bytealg.IndexByteString"], apart := false, narrowed := true }
def FnWordsUptoSaid : Prop := fnWordsUptoRow.holds Try.pinned (OpenSpec.upto fnWordsSpec)

end Rows
end Go.Proofs.Ytligkajfedkldaa
