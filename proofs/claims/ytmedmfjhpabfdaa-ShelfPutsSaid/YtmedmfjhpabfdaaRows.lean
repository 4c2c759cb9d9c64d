/-
  No cell of these rows narrows 'for every input' (looked for: loops, veiled, ifaces, maps, wideKeys, modest, calm, conditions, laid).
  DERIVED. THE GIVEN ROWS OF THIS SEAT. 6 by the template 'for every input the law returns true; each argument reads behind the call as it read before'; 0 by the template 'total and deterministic' (their statements: YtmedmfjhpabfdaaTotals.lean).
  GIVEN WITH THE SEED: the statements are not yours to turn. If you find one false, say at which input.
  Laid BY PROGRAM, IN A SANDBOX (cutbox-rows.mjs): the forced cells as the released guide's own fill.sh prints them over the translation 0fc6f92c543fb185… (all of the seat's roots in one cut). By AI agents, Wed Nov 11 2026. No macro, syntax, notation, axiom, sorry.
-/
import Derived.Test.YtmedmfjhpabfdaaChecked
import GoSem.Claim
import GoSem.ClaimJoined
import GoSem.ClaimMapViews
import Derived.JoinedTies
import Derived.KernelRfl
namespace Go.Proofs.Ytmedmfjhpabfdaa
/- THE CELL 'sum', in the pinned program and in every row, IS THE sha256 OF THE DUMP (.gsa) THAT YtmedmfjhpabfdaaProg.lean LOADS. Nothing in Lean hashes anything: it is a label: what it is worth is what the hold of that sum in a sandbox is worth. -/
noncomputable def Try.pinned : Pinned := { name := "ytmedmfjhpabfdaa", sum := "0fc6f92c543fb1858099f1d9e18f1198a4af85134e7a0cfeca2d675d3063bf4e", checked := Try.checked }
namespace Rows
def none {H : Type} : Left H := { results := [], args := [] }

/-- 'reedlaw.WireSays': WHATEVER THE INPUT: true; the input reads as it did. -/
def wireSaysSpec : ChangeSpec := { name := "wireSays", fn := fun _ => fun
  | [d1, d2] => { results := [.lit (.bool true)], args := [d1, d2] }
  | _ => none }
def wireSaysRow : OpenClaim := { program := "ytmedmfjhpabfdaa", sum := "0fc6f92c543fb1858099f1d9e18f1198a4af85134e7a0cfeca2d675d3063bf4e", func := "reedmace/reedlaw.WireSays", spec := "wireSays", unfollowed := true, recurses := true, apart := false }
def WireSaysSaid : Prop := wireSaysRow.holds Try.pinned (OpenSpec.ofChange wireSaysSpec)

/-- ITS FALSE NEIGHBOUR: 'it returns false'. Refute it at one input. -/
def wireSaysWrong : ChangeSpec := { name := "wireSays", fn := fun _ => fun
  | [d1, d2] => { results := [.lit (.bool false)], args := [d1, d2] }
  | _ => none }
def WireSaysWrongFalsely : Prop := wireSaysRow.holds Try.pinned (OpenSpec.ofChange wireSaysWrong)

/-- 'reedlaw.ShelfPuts': WHATEVER THE INPUT: true; the input reads as it did. -/
def shelfPutsSpec : ChangeSpec := { name := "shelfPuts", fn := fun _ => fun
  | [d1, d2, d3] => { results := [.lit (.bool true)], args := [d1, d2, d3] }
  | _ => none }
def shelfPutsRow : OpenClaim := { program := "ytmedmfjhpabfdaa", sum := "0fc6f92c543fb1858099f1d9e18f1198a4af85134e7a0cfeca2d675d3063bf4e", func := "reedmace/reedlaw.ShelfPuts", spec := "shelfPuts", inPlace := ["internal/bytealg.abigen_runtime_cmpstring", "slices.overlaps[reedmace/api.Version]", "internal/reflectlite.ValueOf", "internal/reflectlite.Swapper", "(internal/reflectlite.Value).Len"], unfollowed := true, recurses := true, apart := false }
def ShelfPutsSaid : Prop := shelfPutsRow.holds Try.pinned (OpenSpec.ofChange shelfPutsSpec)

/-- ITS FALSE NEIGHBOUR: 'it returns false'. Refute it at one input. -/
def shelfPutsWrong : ChangeSpec := { name := "shelfPuts", fn := fun _ => fun
  | [d1, d2, d3] => { results := [.lit (.bool false)], args := [d1, d2, d3] }
  | _ => none }
def ShelfPutsWrongFalsely : Prop := shelfPutsRow.holds Try.pinned (OpenSpec.ofChange shelfPutsWrong)

/-- 'reedlaw.ShelfSays': WHATEVER THE INPUT: true; the input reads as it did. -/
def shelfSaysSpec : ChangeSpec := { name := "shelfSays", fn := fun _ => fun
  | [d1, d2, d3] => { results := [.lit (.bool true)], args := [d1, d2, d3] }
  | _ => none }
def shelfSaysRow : OpenClaim := { program := "ytmedmfjhpabfdaa", sum := "0fc6f92c543fb1858099f1d9e18f1198a4af85134e7a0cfeca2d675d3063bf4e", func := "reedmace/reedlaw.ShelfSays", spec := "shelfSays", inPlace := ["internal/bytealg.abigen_runtime_cmpstring"], unfollowed := true, recurses := true, apart := false }
def ShelfSaysSaid : Prop := shelfSaysRow.holds Try.pinned (OpenSpec.ofChange shelfSaysSpec)

/-- ITS FALSE NEIGHBOUR: 'it returns false'. Refute it at one input. -/
def shelfSaysWrong : ChangeSpec := { name := "shelfSays", fn := fun _ => fun
  | [d1, d2, d3] => { results := [.lit (.bool false)], args := [d1, d2, d3] }
  | _ => none }
def ShelfSaysWrongFalsely : Prop := shelfSaysRow.holds Try.pinned (OpenSpec.ofChange shelfSaysWrong)

/-- 'reedlaw.PartSays': WHATEVER THE INPUT: true; the input reads as it did. -/
def partSaysSpec : ChangeSpec := { name := "partSays", fn := fun _ => fun
  | [d1, d2, d3, d4] => { results := [.lit (.bool true)], args := [d1, d2, d3, d4] }
  | _ => none }
def partSaysRow : OpenClaim := { program := "ytmedmfjhpabfdaa", sum := "0fc6f92c543fb1858099f1d9e18f1198a4af85134e7a0cfeca2d675d3063bf4e", func := "reedmace/reedlaw.PartSays", spec := "partSays", unfollowed := true, recurses := true, apart := false }
def PartSaysSaid : Prop := partSaysRow.holds Try.pinned (OpenSpec.ofChange partSaysSpec)

/-- ITS FALSE NEIGHBOUR: 'it returns false'. Refute it at one input. -/
def partSaysWrong : ChangeSpec := { name := "partSays", fn := fun _ => fun
  | [d1, d2, d3, d4] => { results := [.lit (.bool false)], args := [d1, d2, d3, d4] }
  | _ => none }
def PartSaysWrongFalsely : Prop := partSaysRow.holds Try.pinned (OpenSpec.ofChange partSaysWrong)

/-- 'reedlaw.WireSame': WHATEVER THE INPUT: true; the input reads as it did. -/
def wireSameSpec : ChangeSpec := { name := "wireSame", fn := fun _ => fun
  | [d1, d2] => { results := [.lit (.bool true)], args := [d1, d2] }
  | _ => none }
def wireSameRow : OpenClaim := { program := "ytmedmfjhpabfdaa", sum := "0fc6f92c543fb1858099f1d9e18f1198a4af85134e7a0cfeca2d675d3063bf4e", func := "reedmace/reedlaw.WireSame", spec := "wireSame", unfollowed := true, recurses := true, apart := false }
def WireSameSaid : Prop := wireSameRow.holds Try.pinned (OpenSpec.ofChange wireSameSpec)

/-- ITS FALSE NEIGHBOUR: 'it returns false'. Refute it at one input. -/
def wireSameWrong : ChangeSpec := { name := "wireSame", fn := fun _ => fun
  | [d1, d2] => { results := [.lit (.bool false)], args := [d1, d2] }
  | _ => none }
def WireSameWrongFalsely : Prop := wireSameRow.holds Try.pinned (OpenSpec.ofChange wireSameWrong)

/-- 'reedlaw.PartSets': WHATEVER THE INPUT: true; the input reads as it did. -/
def partSetsSpec : ChangeSpec := { name := "partSets", fn := fun _ => fun
  | [d1, d2, d3] => { results := [.lit (.bool true)], args := [d1, d2, d3] }
  | _ => none }
def partSetsRow : OpenClaim := { program := "ytmedmfjhpabfdaa", sum := "0fc6f92c543fb1858099f1d9e18f1198a4af85134e7a0cfeca2d675d3063bf4e", func := "reedmace/reedlaw.PartSets", spec := "partSets", unfollowed := true, recurses := true, apart := false }
def PartSetsSaid : Prop := partSetsRow.holds Try.pinned (OpenSpec.ofChange partSetsSpec)

/-- ITS FALSE NEIGHBOUR: 'it returns false'. Refute it at one input. -/
def partSetsWrong : ChangeSpec := { name := "partSets", fn := fun _ => fun
  | [d1, d2, d3] => { results := [.lit (.bool false)], args := [d1, d2, d3] }
  | _ => none }
def PartSetsWrongFalsely : Prop := partSetsRow.holds Try.pinned (OpenSpec.ofChange partSetsWrong)

/- THE SECOND FORM. 'bulk': how many values and letters a reading holds, each counted each time it is reached (what is shared counts as often as it is met; a slice's spare places count too). A statement '..UptoSaid' is the law's where the arguments, and the package variables that the reading takes, are together of bulk at most 1048576: NARROWER than '..Said'. Prove '..Said' where nothing that the law and all that it calls make is longer than what came in: it says more and counts as full. Else prove '..UptoSaid'. A law counts once. -/
mutual
def uptoBulk {H : Type} : DataW H → Nat
  | .lit (.string bytes) => bytes.length + 1
  | .lit _ => 1
  | .nil => 1
  | .ptr d => uptoBulk d + 1
  | .slice elems spare => uptoBulkAll elems + uptoBulkAll spare + 1
  | .agg parts => uptoBulkAll parts + 1
  | .iface _ d => uptoBulk d + 1
  | .map entries => uptoBulkEntries entries + 1
  | .held _ => 1
def uptoBulkAll {H : Type} : List (DataW H) → Nat
  | [] => 0
  | d :: r => uptoBulk d + uptoBulkAll r
def uptoBulkEntries {H : Type} : List (Lit × DataW H) → Nat
  | [] => 0
  | x :: r => uptoBulkEntry x + uptoBulkEntries r
def uptoBulkEntry {H : Type} : Lit × DataW H → Nat
  | (.string bytes, d) => bytes.length + uptoBulk d + 1
  | (_, d) => uptoBulk d + 1
 end
def uptoSmall : (H : Type) → List (DataW H) → Bool := fun _ ds => decide (uptoBulkAll ds ≤ 1048576)
def OpenSpec.upto (s : _root_.Go.ChangeSpec) : _root_.Go.OpenSpec := { _root_.Go.OpenSpec.ofChange s with cond := some uptoSmall }

/-- 'reedlaw.WireSays', WHERE WHAT IT READS IS OF BULK AT MOST 1048576: true; the input reads as it did. -/
def wireSaysUptoRow : OpenClaim := { program := "ytmedmfjhpabfdaa", sum := "0fc6f92c543fb1858099f1d9e18f1198a4af85134e7a0cfeca2d675d3063bf4e", func := "reedmace/reedlaw.WireSays", spec := "wireSays", unfollowed := true, recurses := true, apart := false, narrowed := true }
def WireSaysUptoSaid : Prop := wireSaysUptoRow.holds Try.pinned (OpenSpec.upto wireSaysSpec)

/-- 'reedlaw.ShelfPuts', WHERE WHAT IT READS IS OF BULK AT MOST 1048576: true; the input reads as it did. -/
def shelfPutsUptoRow : OpenClaim := { program := "ytmedmfjhpabfdaa", sum := "0fc6f92c543fb1858099f1d9e18f1198a4af85134e7a0cfeca2d675d3063bf4e", func := "reedmace/reedlaw.ShelfPuts", spec := "shelfPuts", inPlace := ["internal/bytealg.abigen_runtime_cmpstring", "slices.overlaps[reedmace/api.Version]", "internal/reflectlite.ValueOf", "internal/reflectlite.Swapper", "(internal/reflectlite.Value).Len"], unfollowed := true, recurses := true, apart := false, narrowed := true }
def ShelfPutsUptoSaid : Prop := shelfPutsUptoRow.holds Try.pinned (OpenSpec.upto shelfPutsSpec)

/-- 'reedlaw.ShelfSays', WHERE WHAT IT READS IS OF BULK AT MOST 1048576: true; the input reads as it did. -/
def shelfSaysUptoRow : OpenClaim := { program := "ytmedmfjhpabfdaa", sum := "0fc6f92c543fb1858099f1d9e18f1198a4af85134e7a0cfeca2d675d3063bf4e", func := "reedmace/reedlaw.ShelfSays", spec := "shelfSays", inPlace := ["internal/bytealg.abigen_runtime_cmpstring"], unfollowed := true, recurses := true, apart := false, narrowed := true }
def ShelfSaysUptoSaid : Prop := shelfSaysUptoRow.holds Try.pinned (OpenSpec.upto shelfSaysSpec)

/-- 'reedlaw.PartSays', WHERE WHAT IT READS IS OF BULK AT MOST 1048576: true; the input reads as it did. -/
def partSaysUptoRow : OpenClaim := { program := "ytmedmfjhpabfdaa", sum := "0fc6f92c543fb1858099f1d9e18f1198a4af85134e7a0cfeca2d675d3063bf4e", func := "reedmace/reedlaw.PartSays", spec := "partSays", unfollowed := true, recurses := true, apart := false, narrowed := true }
def PartSaysUptoSaid : Prop := partSaysUptoRow.holds Try.pinned (OpenSpec.upto partSaysSpec)

/-- 'reedlaw.WireSame', WHERE WHAT IT READS IS OF BULK AT MOST 1048576: true; the input reads as it did. -/
def wireSameUptoRow : OpenClaim := { program := "ytmedmfjhpabfdaa", sum := "0fc6f92c543fb1858099f1d9e18f1198a4af85134e7a0cfeca2d675d3063bf4e", func := "reedmace/reedlaw.WireSame", spec := "wireSame", unfollowed := true, recurses := true, apart := false, narrowed := true }
def WireSameUptoSaid : Prop := wireSameUptoRow.holds Try.pinned (OpenSpec.upto wireSameSpec)

/-- 'reedlaw.PartSets', WHERE WHAT IT READS IS OF BULK AT MOST 1048576: true; the input reads as it did. -/
def partSetsUptoRow : OpenClaim := { program := "ytmedmfjhpabfdaa", sum := "0fc6f92c543fb1858099f1d9e18f1198a4af85134e7a0cfeca2d675d3063bf4e", func := "reedmace/reedlaw.PartSets", spec := "partSets", unfollowed := true, recurses := true, apart := false, narrowed := true }
def PartSetsUptoSaid : Prop := partSetsUptoRow.holds Try.pinned (OpenSpec.upto partSetsSpec)

end Rows
end Go.Proofs.Ytmedmfjhpabfdaa
